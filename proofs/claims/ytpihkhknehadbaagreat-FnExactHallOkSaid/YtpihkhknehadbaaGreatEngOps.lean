/- Each operation that reads does what the evaluator says. No condition. -/
import Derived.Test.YtpihkhknehadbaaGreatEngRel
import Derived.Laws.IdiomCopy
import Derived.Laws.Cells
import Derived.Laws.StructEq
import Derived.Laws.Slices
import Derived.Deep.AppendSrc
import Derived.Lib.SliceRun
import Derived.WalkSpells
namespace Go.Proofs.YtpihkhknehadbaaGreat.Eng
open Go.RowKit
set_option linter.unusedVariables false
/-- zero cells -/
def zeroVals : Ty → List Value
  | .cons .bool ts => .bool false :: zeroVals ts
  | .cons (.int k) ts => .int k 0 :: zeroVals ts
  | .cons .str ts => .string ByteArray.empty :: zeroVals ts
  | .cons (.slice _) ts => .slice none 0 0 :: zeroVals ts
  | .cons _ ts => undef :: zeroVals ts
  | _ => []
/-- each cell is one cell -/
def Ty.flat : Ty → Bool
  | .cons .bool ts => ts.flat
  | .cons (.int _) ts => ts.flat
  | .cons .str ts => ts.flat
  | .cons (.slice _) ts => ts.flat
  | .nil => true
  | _ => false
/-- a struct's fields, one cell each, numbers and bools -/
def eqF (P : Program) : Ty → List Field → Nat → Prop
  | .nil, [], _ => True
  | .cons .bool ts, f :: fs, off => f.name ≠ "_" ∧ f.offset = off ∧ P.underlying f.type = some .bool ∧ eqF P ts fs (off + 1)
  | .cons (.int k) ts, f :: fs, off => f.name ≠ "_" ∧ f.offset = off ∧ P.underlying f.type = some (.int k) ∧ eqF P ts fs (off + 1)
  | _, _, _ => False
/-- a struct or an array -/
def aggD : TypeDesc → Bool | .struct _ | .array _ _ => true | _ => false
/-- What the program's table of types says of an entry. -/
structure TyOk (P : Program) (T : Nat) (i : TI) : Prop where
  info : ∃ I, P.info? T = some I ∧ I.size = i.cells.size ∧ I.bytes ≤ 512
  zero : ∃ I z, P.info? T = some I ∧ I.zero = some z ∧ z.cells = (zeroVals i.cells).toArray
  flat : i.cells.flat = true
  pos : i.cells.size ≠ 0
  und : ∃ d, P.underlying T = some d ∧ aggD d = i.agg
  offs : ∀ (f : Nat) (off : Nat × Nat × Bool), i.offs[f]? = some off → ∃ fs : Array Field, P.underlying T = some (.struct fs) ∧ ∃ fl : Field, fs[f]? = some fl ∧ fl.offset = off.1 ∧ (∃ I, P.info? fl.type = some I ∧ I.size = off.2.1 ∧ 0 < off.2.1) ∧
    (off.2.2 = false → off.2.1 = 1) ∧ ∃ d, P.underlying fl.type = some d ∧ aggD d = off.2.2
  bool : i.agg = false → i.cells = .cons .bool .nil → P.underlying T = some .bool
  int : ∀ k, i.agg = false → i.cells = .cons (.int k) .nil → P.underlying T = some (.int k)
  one : i.agg = false → i.cells.size = 1
  slice : ∀ us, i.agg = false → i.cells = .cons (.slice us) .nil → P.underlying T = some (.slice i.elem)
  places : i.agg = true → ∃ fs : Array Field, P.underlying T = some (.struct fs) ∧ fs.toList.mapM (fun f => (P.info? f.type).map fun j => (f.offset, j.size)) = some (i.offs.map fun o => (o.1, o.2.1))
  eq : i.agg = true → i.eq = true → P.underlying T = some (.struct (P.fieldsOf T)) ∧ P.stoodInHeld T = false ∧ P.eqGuardType P.depth T = false ∧ eqF P i.cells (P.fieldsOf T).toList 0
def TabOk (P : Program) (tab : List (Nat × TI)) : Prop := ∀ T i, look tab T = some i → TyOk P T i
/-- A later world in which what stood stands. -/
def Ext (w w' : World) : Prop := w.heap.size ≤ w'.heap.size ∧ ∀ b o, b < w.heap.size → at_ w' b o = at_ w b o
theorem Ext.refl (w : World) : Ext w w := ⟨Nat.le_refl _, fun _ _ _ => rfl⟩
theorem Ext.trans {w w' w'' : World} (h : Ext w w') (k : Ext w' w'') : Ext w w'' := ⟨Nat.le_trans h.1 k.1, fun b o hb => (k.2 b o (Nat.lt_of_lt_of_le hb h.1)).trans (h.2 b o hb)⟩
theorem Ext.at {w w' : World} (h : Ext w w') {b o : Nat} {v : Value} (e : at_ w b o = some v) : at_ w' b o = some v := (h.2 b o (lt_of_at e)).trans e
theorem Ext.drew (w : World) : Ext w w.drew := ⟨Nat.le_refl _, fun _ _ _ => rfl⟩
section
variable {P : Program}
theorem add_at (b o j : Nat) : (⟨b, o, none⟩ : Addr).add j = ⟨b, o + j, none⟩ := by unfold Addr.add; split <;> simp_all
/-! ### The evaluator's branches -/
theorem br_some {α : Type} {c : Bool} {x y : Option α} {r : α} (h : br c x y = some r) : (c = true ∧ x = some r) ∨ (c = false ∧ y = some r) := by
  unfold br at h; cases c <;> simp_all
theorem chk_some {α : Type} {c : Bool} {x : Option α} {r : α} (h : chk c x = some r) : c = true ∧ x = some r := by
  unfold chk at h; cases c <;> simp_all
theorem bnd_some {α β : Type} {x : Option α} {f : α → Option β} {r : β} (h : bnd x f = some r) : ∃ y, x = some y ∧ f y = some r := Option.bind_eq_some_iff.1 h
theorem beq_nat {i j : Nat} (h : Nat.beq i j = true) : i = j := Nat.eq_of_beq_eq_true h
theorem ble_nat {i j : Nat} (h : Nat.ble i j = true) : i ≤ j := Nat.le_of_ble_eq_true h
theorem and2 {a b : Bool} (h : (a && b) = true) : a = true ∧ b = true := by cases a <;> cases b <;> simp_all
/-- What an operation must come to: K's state and value, told of a later world; q: what stood stands. -/
def Nxt {R : Type} (q : Bool) (G : Gh) (σ : St) (w : World) (a : Act) (d : Option Tmp) (K : AV → St → Option R) (r : R) (next : Act → World → Prop) : Prop :=
  ∀ v R' G' x w', K v ⟨σ.tmps, R'⟩ = some r → RelR G' R' w' → (avR G' R' w' v).1 x → Evo G σ.roots w G' R' w' → (q = true → Ext w w') → next (a.put d x) w'
/-- an operation gives a value and leaves the world alone, here and in whatever later world in which the roots that it reads stand as they stood -/
def Rd (P : Program) (G : Gh) (R : List Root) (w : World) (o : Oper) (a : Act) (x : Value) (rs : List Nat) : Prop := (execOp a.eval o).run P w = .ok (.value x) w ∧
  ∀ G' R' w', Evo G R w G' R' w' → (∀ r ∈ rs, sameR R R' r = true) → (execOp a.eval o).run P w' = .ok (.value x) w'
theorem wp_of_value {o : Oper} {a : Act} {w w' : World} {x : Value} {next : Act → World → Prop} {Q : Exit → Act → World → Prop} (h : (execOp a.eval o).run P w = .ok (.value x) w') (hn : next (a.put o.dst x) w') : o.wp P a w next Q := by
  unfold Oper.wp; rw [h]; exact hn
theorem wp_of_skip {o : Oper} {a : Act} {w w' : World} {next : Act → World → Prop} {Q : Exit → Act → World → Prop} (h : (execOp a.eval o).run P w = .ok .skip w') (hn : next (a.put o.dst undef) w') : o.wp P a w next Q := by
  unfold Oper.wp; rw [h]; exact hn
section
variable {R : Type} {G : Gh} {σ : St} {a : Act} {w : World} {K : AV → St → Option R} {r : R} {next : Act → World → Prop} {Q : Exit → Act → World → Prop} {o : Oper} {tab : List (Nat × TI)}
/-- what a reader's evaluation comes to -/
def Reads (P : Program) (G : Gh) (σ : St) (w : World) (o : Oper) (a : Act) (K : AV → St → Option R) (r : R) : Prop :=
  ∃ v x, K v σ = some r ∧ Rd P G σ.roots w o a x (readRoots σ o) ∧ (avR G σ.roots w v).1 x
theorem Reads.wp (h : Reads P G σ w o a K r) (hR : RelR G σ.roots w) {q : Bool} (hn : Nxt q G σ w a o.dst K r next) : o.wp P a w next Q := by
  obtain ⟨v, x, hK, hr, hv⟩ := h
  exact wp_of_value hr.1 (hn v σ.roots G x w hK hR hv (Evo.refl _ _ _) (fun _ => Ext.refl w))
theorem Reads.mk' {v : AV} {x : Value} (hK : K v σ = some r) (hrun : ∀ w', True → (execOp a.eval o).run P w' = .ok (.value x) w') (hv : (avR G σ.roots w v).1 x) : Reads P G σ w o a K r := ⟨v, x, hK, ⟨hrun w trivial, fun _ _ w' _ _ => hrun w' trivial⟩, hv⟩
theorem sameSt_eq : ∀ {ss ts : List Nat}, sameSt ss ts = true → ss = ts
  | [], [], _ => rfl
  | [], _ :: _, h => by cases h
  | _ :: _, [], h => by cases h
  | s :: ss, t :: ts, h => by
    obtain ⟨h1, h2⟩ := and2 h
    rw [beq_nat h1, sameSt_eq h2]
theorem sameR_box {R R' : List Root} {r : Nat} {cs : List AV} {ss : List Nat} {v b : Nat} (hq : R[r]? = some ⟨.box cs ss, v, b⟩) (h : sameR R R' r = true) : ∃ q' cs', R'[r]? = some q' ∧ q'.k = .box cs' ss := by
  unfold sameR at h
  rw [hq] at h
  cases hq' : R'[r]? with
  | none => rw [hq'] at h; cases h
  | some q' =>
    rw [hq'] at h
    cases hk : q'.k with
    | box cs' ss' => simp only [hk] at h; rw [sameSt_eq h]; exact ⟨q', cs', rfl, hk⟩
    | _ => simp only [hk] at h; cases h
theorem sameR_row {R R' : List Root} {r : Nat} {o : Bool} {ts : Ty} {l : List ts.den} {v b : Nat} (hq : R[r]? = some ⟨.row o ts l, v, b⟩) (h : sameR R R' r = true) : ∃ q', R'[r]? = some q' ∧ q'.ver = v := by
  unfold sameR at h
  rw [hq] at h
  cases hq' : R'[r]? with
  | none => rw [hq'] at h; cases h
  | some q' =>
    rw [hq'] at h
    refine ⟨q', rfl, ?_⟩
    cases hk : q'.k <;> simp only [hk] at h <;> first | exact (beq_nat h).symm | cases h
theorem sameR_trans {R R' R'' : List Root} {r : Nat} (h : sameR R R' r = true) (k : sameR R' R'' r = true) : sameR R R'' r = true := by
  unfold sameR at h k ⊢
  cases h1 : R[r]? with
  | none => rw [h1] at h; cases h
  | some p =>
    cases h2 : R'[r]? with
    | none => rw [h1, h2] at h; cases h
    | some q =>
      cases h3 : R''[r]? with
      | none => rw [h2, h3] at k; cases k
      | some q' =>
        rw [h1, h2] at h
        rw [h2, h3] at k
        simp only at h k ⊢
        cases e1 : p.k with
        | box cs ss =>
          rw [e1] at h
          cases e2 : q.k with
          | box cs' ss' =>
            rw [e2] at h k
            cases e3 : q'.k with
            | box cs2 ss2 => rw [e3] at k; simp only at h k ⊢; rw [sameSt_eq h]; exact k
            | _ => rw [e3] at k; cases k
          | _ => rw [e2] at h; cases h
        | row o ts l =>
          rw [e1] at h
          cases e2 : q.k with
          | row o' ts' l' =>
            rw [e2] at h k
            cases e3 : q'.k with
            | row o2 ts2 l2 => rw [e3] at k; simp only at h k ⊢; rw [beq_nat h]; exact k
            | _ => rw [e3] at k; cases k
          | _ => rw [e2] at h; cases h
        | _ => rw [e1] at h; cases h
theorem box_same {G' : Gh} {R R' : List Root} {w' : World} {r : Nat} {cs : List AV} {ss : List Nat} {v b0 : Nat} (hE : Evo G R w G' R' w') (hq : R[r]? = some ⟨.box cs ss, v, b0⟩) (h : sameR R R' r = true) {b o f : Nat} (ha : (G.anch r).1 = some ⟨b, o, none⟩)
    (ho : G.own b (o + f) = .of r 0) (hb : b < w.heap.size) : at_ w' b (o + f) = at_ w b (o + f) := by
  obtain ⟨q', cs', hq', hk⟩ := sameR_box hq h
  obtain ⟨q2, hq2, hle⟩ := hE.root r _ hq
  rw [hq'] at hq2; cases hq2
  exact (hle.cell cs ss cs' ss rfl hk f rfl b o ha ho hb).2
theorem row_same {G' : Gh} {R R' : List Root} {w' : World} {r : Nat} {ow : Bool} {ts : Ty} {l : List ts.den} {v b0 : Nat} (hE : Evo G R w G' R' w') (hq : R[r]? = some ⟨.row ow ts l, v, b0⟩) (h : sameR R R' r = true) (s : Nat) : Lk G w G' w' (.of r s) (.of r s) := by
  obtain ⟨q', hq', hk⟩ := sameR_row hq h
  obtain ⟨q2, hq2, hle⟩ := hE.root r _ hq
  rw [hq'] at hq2; cases hq2
  exact hle.same ow ts l rfl hk s
theorem at_u {G : Gh} {w : World} {b o : Nat} {v : Value} (h : vw G w b o = some v) : at_ w b o = some v := (vw_some.1 h).2
/-! ### Loads -/
/-- A load of the cells that stand at a place. -/
theorem run_load_cells (hT : TabOk P tab) {T : Nat} {i : TI} (hi : look tab T = some i) {w : World} {b o : Nat} (vs : List Value) (hl : vs.length = i.cells.size)
    (hc : ∀ j, j < vs.length → at_ w b (o + j) = some (vs.getD j undef)) :
    (loadVar T ⟨b, o, none⟩).run P w = .ok (if i.agg then .agg vs.toArray else vs.getD 0 undef) w := by
  obtain ⟨d, e3, e4⟩ := (hT T i hi).und
  obtain ⟨I, e1, e2, _⟩ := (hT T i hi).info
  have h1 := (hT T i hi).one
  have hagg : (isAgg T).run P w = .ok i.agg w := by
    unfold isAgg
    rw [Sem.run_bind, run_underlying e3 w]
    cases d <;> simp_all [aggD]
  have hload : (loadCells ⟨b, o, none⟩ vs.length).run P w = .ok vs.toArray w := run_loadCells_list (P := P) w ⟨b, o, none⟩ vs (fun j v hv => by
    rw [add_at]
    have hj : j < vs.length := (List.getElem?_eq_some_iff.1 hv).1
    have := hc j hj
    rw [List.getD_eq_getElem?_getD, hv] at this; exact this)
  cases ha : i.agg with
  | true =>
    rw [ha] at hagg
    simp [loadVar, Sem.run_bind, hagg, sizeOf, typeInfo, e1, e2, ← hl, hload]
  | false =>
    rw [ha] at hagg
    have h0 := hc 0 (by rw [hl, h1 ha]; omega)
    simp only [Nat.add_zero] at h0
    have h0' : w.cell? ⟨b, o, none⟩ = some (vs.getD 0 undef) := h0
    simp [loadVar, Sem.run_bind, hagg, run_load, h0']
theorem one_av {R' : List Root} {i : TI} {cs : AV} {vs : List Value} (hl : vs.length = i.cells.size) (h1 : i.agg = false → i.cells.size = 1) (h : (avR G R' w cs).2 vs) :
    (avR G R' w (one i cs)).1 (if i.agg then .agg vs.toArray else vs.getD 0 undef) := by
  unfold one
  cases ha : i.agg with
  | true => exact ⟨vs, rfl, h⟩
  | false =>
    have := h1 ha
    cases cs with
    | cons v as => obtain ⟨x, xs, e, g, _⟩ := h; subst e; exact g
    | _ => exact trivial
/-- cells of an element, taken as abstract values -/
theorem takeEl_spec {R' : List Root} {own : Bool} {r s i : Nat} {c : Nat → Nat → Option Value} {cv : Nat → (t : Ty) → t.den → Value → Prop} {b : Nat} {w : World}
    (hf : ∀ k t x v, (own && t.isSl) = false → cv k t x v → (ro (vw G w) t).1 x v) :
    ∀ (ts : Ty) (x : ts.den) (o f n k k0 : Nat), elG c cv ts x b o k0 → f + n ≤ ts.size →
      (∀ j t x v, own = true → t.isSl = true → j < ts.size → c b (o + j) = some v → cv (k0 + j) t x v → (avR G R' w (.il r s i (k + j))).1 v) →
      ∃ vs : List Value, vs.length = n ∧ (∀ j, j < n → c b (o + f + j) = some (vs.getD j undef)) ∧ (avR G R' w (takeEl own r s i ts x f n k)).2 vs
  | .cons t ts, x, o, 0, n + 1, k, k0, ⟨⟨v, e, g⟩, h⟩, hn, hi => by
    obtain ⟨vs, hl, hc, ha⟩ := takeEl_spec hf ts x.2 (o + 1) 0 n (k + 1) (k0 + 1) h (by simp only [Ty.size] at hn; omega) (fun j t x v h1 h2 h3 h4 h5 => by
      rw [show k + 1 + j = k + (j + 1) by omega]
      exact hi (j + 1) t x v h1 h2 (by simp only [Ty.size]; omega) (by rw [show o + (j + 1) = o + 1 + j by omega]; exact h4) (by rw [show k0 + (j + 1) = k0 + 1 + j by omega]; exact h5))
    refine ⟨v :: vs, by simp [hl], fun j hj => ?_, v, vs, rfl, ?_, ha⟩
    · cases j with
      | zero => simpa using e
      | succ j =>
        have := hc j (by omega)
        rw [show o + 0 + (j + 1) = o + 1 + 0 + j by omega]; simpa using this
    · cases hb : own && t.isSl with
      | false => exact hf k0 t x.1 v hb g
      | true =>
        obtain ⟨h1, h2⟩ := and2 hb
        exact hi 0 t x.1 v h1 h2 (by simp [Ty.size]) (by simpa using e) (by simpa using g)
  | .cons t ts, x, o, f + 1, n, k, k0, ⟨_, h⟩, hn, hi => by
    obtain ⟨vs, hl, hc, ha⟩ := takeEl_spec hf ts x.2 (o + 1) f n (k + 1) (k0 + 1) h (by simp only [Ty.size] at hn; omega) (fun j t x v h1 h2 h3 h4 h5 => by
      rw [show k + 1 + j = k + (j + 1) by omega]
      exact hi (j + 1) t x v h1 h2 (by simp only [Ty.size]; omega) (by rw [show o + (j + 1) = o + 1 + j by omega]; exact h4) (by rw [show k0 + (j + 1) = k0 + 1 + j by omega]; exact h5))
    exact ⟨vs, hl, fun j hj => by rw [show o + (f + 1) + j = o + 1 + f + j by omega]; exact hc j hj, ha⟩
  | .cons t ts, x, o, 0, 0, k, k0, _, _, _ => ⟨[], rfl, fun j hj => by omega, rfl⟩
  | .bool, x, o, f, n, k, k0, _, h, _ => ⟨[], by simp only [Ty.size] at h; simp; omega, fun j hj => by simp only [Ty.size] at h; omega, rfl⟩
  | .int _, x, o, f, n, k, k0, _, h, _ => ⟨[], by simp only [Ty.size] at h; simp; omega, fun j hj => by simp only [Ty.size] at h; omega, rfl⟩
  | .str, x, o, f, n, k, k0, _, h, _ => ⟨[], by simp only [Ty.size] at h; simp; omega, fun j hj => by simp only [Ty.size] at h; omega, rfl⟩
  | .nil, x, o, f, n, k, k0, _, h, _ => ⟨[], by simp only [Ty.size] at h; simp; omega, fun j hj => by simp only [Ty.size] at h; omega, rfl⟩
  | .slice _, x, o, f, n, k, k0, _, h, _ => ⟨[], by simp only [Ty.size] at h; simp; omega, fun j hj => by simp only [Ty.size] at h; omega, rfl⟩
theorem takeAV_spec {R' : List Root} {w : World} {c : Nat → Nat → Option Value} (ts : Ty) (x : ts.den) (b o k f n : Nat) (h : elG c (flatV (vw G w)) ts x b o k) (hn : f + n ≤ ts.size) :
    ∃ vs : List Value, vs.length = n ∧ (∀ j, j < n → c b (o + f + j) = some (vs.getD j undef)) ∧ (avR G R' w (takeAV ts x f n)).2 vs :=
  takeEl_spec (own := false) (fun k t x v _ h => h) ts x o f n 0 k h hn (fun _ _ _ _ h => by cases h)
/-- a run of a box's cells, as a row of values -/
theorem box_cells {G : Gh} {R' : List Root} {w : World} {b : Nat} : ∀ (cs : List AV) (p f n : Nat), (∀ f, f < cs.length → ∃ v, at_ w b (p + f) = some v ∧ (avR G R' w (cs.getD f .undef)).1 v) → f + n ≤ cs.length →
    ∃ vs : List Value, vs.length = n ∧ (∀ j, j < n → at_ w b (p + f + j) = some (vs.getD j undef)) ∧ (avR G R' w (headAV n (dropAV f (.ofList cs)))).2 vs
  | cs, p, 0, 0, _, _ => ⟨[], rfl, fun j hj => by omega, by cases cs <;> exact rfl⟩
  | c :: cs, p, 0, n + 1, h, hl => by
    obtain ⟨v, e, g⟩ := h 0 (by simp)
    obtain ⟨vs, h1, h2, h3⟩ := box_cells cs (p + 1) 0 n (fun f hf => by
      obtain ⟨v, e, g⟩ := h (f + 1) (by simp; omega)
      exact ⟨v, by rw [show p + 1 + f = p + (f + 1) by omega]; exact e, g⟩) (by simp at hl; omega)
    refine ⟨v :: vs, by simp [h1], fun j hj => ?_, v, vs, rfl, g, h3⟩
    cases j with
    | zero => simpa using e
    | succ j => have := h2 j (by omega); rw [show p + 0 + (j + 1) = p + 1 + 0 + j by omega]; simpa using this
  | c :: cs, p, f + 1, n, h, hl => by
    obtain ⟨vs, h1, h2, h3⟩ := box_cells cs (p + 1) f n (fun f hf => by
      obtain ⟨v, e, g⟩ := h (f + 1) (by simp; omega)
      exact ⟨v, by rw [show p + 1 + f = p + (f + 1) by omega]; exact e, g⟩) (by simp at hl; omega)
    exact ⟨vs, h1, fun j hj => by rw [show p + (f + 1) + j = p + 1 + f + j by omega]; exact h2 j hj, h3⟩
  | [], p, f + 1, n, _, hl => by simp at hl
  | [], p, 0, n + 1, _, hl => by simp at hl
/-- an element of an own row -/
theorem row_elem {G : Gh} {w : World} {cv : Nat → (t : Ty) → t.den → Value → Prop} {L : Lab} {ts : Ty} {l : List ts.den} {a : Option Addr} {n : Nat} (h : rowG G w cv L ts l a n) {i : Nat} (hi : i < List.length l) :
    ∃ b p, a = some ⟨b, p, none⟩ ∧ (∀ j, j < ts.size → G.own b (p + i * ts.size + j) = L ∧ w.frozen? ⟨b, p + i * ts.size + j, none⟩ = false ∧ (at_ w b (p + i * ts.size + j)).isSome = true) ∧
      elG (at_ w) cv ts (rd ts l i) b (p + i * ts.size) (i * ts.size) := by
  obtain ⟨h0, h | ⟨b, p, ea, h1, h2⟩⟩ := h
  · omega
  · refine ⟨b, p, ea, fun j hj => ?_, h2 i hi⟩
    have := h1 _ (lt_row hi h0 hj)
    rwa [show p + i * ts.size + j = p + (i * ts.size + j) by omega]
theorem inner_spec {c : Nat → Nat → Option Value} {cv : Nat → (t : Ty) → t.den → Value → Prop} {b : Nat} : ∀ (ts : Ty) (x : ts.den) (o k f : Nat) (us : Ty) (m : List us.den), innerOf ts x f = some ⟨us, m⟩ → elG c cv ts x b o k →
    f < ts.size ∧ ∃ v, c b (o + f) = some v ∧ cv (k + f) (.slice us) m v
  | .cons (.slice vs) ts, x, o, k, 0, us, m, h, ⟨⟨v, e, g⟩, _⟩ => by cases h; exact ⟨by simp [Ty.size], v, e, g⟩
  | .cons t ts, x, o, k, f + 1, us, m, h, ⟨_, hk⟩ => by
    have h : innerOf ts x.2 f = some ⟨us, m⟩ := by cases t <;> exact h
    obtain ⟨h1, v, h2, h3⟩ := inner_spec ts x.2 (o + 1) (k + 1) f us m h hk
    exact ⟨by simp only [Ty.size]; omega, v, by rw [show o + (f + 1) = o + 1 + f by omega]; exact h2, by rw [show k + (f + 1) = k + 1 + f by omega]; exact h3⟩
  | .cons .bool ts, x, o, k, 0, us, m, h, _ => by cases h
  | .cons (.int _) ts, x, o, k, 0, us, m, h, _ => by cases h
  | .cons .str ts, x, o, k, 0, us, m, h, _ => by cases h
  | .cons .nil ts, x, o, k, 0, us, m, h, _ => by cases h
  | .cons (.cons _ _) ts, x, o, k, 0, us, m, h, _ => by cases h
  | .bool, _, _, _, _, _, _, h, _ => by cases h
  | .int _, _, _, _, _, _, _, h, _ => by cases h
  | .str, _, _, _, _, _, _, h, _ => by cases h
  | .slice _, _, _, _, _, _, _, h, _ => by cases h
  | .nil, _, _, _, _, _, _, h, _ => by cases h
/-- what an inner row's reference tells: its head and its row -/
theorem il_spec {Rs : List Root} (hR : RelR G Rs w) {rr s i f ver anc : Nat} {ts : Ty} {l : List ts.den} {us : Ty} {m : List us.den} {v : Value} (hq : Rs[rr]? = some ⟨.row true ts l, ver, anc⟩) (hs : ver = s) (hin : innerOf ts (rd ts l i) f = some ⟨us, m⟩)
    (hv : (avR G Rs w (.il rr s i f)).1 v) : i < List.length l ∧ f < ts.size ∧ ∃ a n, v = .slice a (List.length m) n ∧ rowG G w (flatV (vw G w)) (.of rr (i * ts.size + f + 1)) us m a n := by
  obtain ⟨q, hq', _, k⟩ := hv
  rw [hq] at hq'; cases hq'
  obtain ⟨h1, h2, b, o, h3, h4, h5⟩ := k hs true ts l rfl
  refine ⟨h1, h2, ?_⟩
  have hro := hR rr _ hq
  obtain ⟨b', o', ea, _, hel⟩ := row_elem (show rowG G w (deepV G w rr) (.of rr 0) ts l (G.anch rr).1 (G.anch rr).2 from hro) h1
  rw [h3] at ea; cases ea
  obtain ⟨_, v', e1, a, n, e2, e3⟩ := inner_spec ts _ _ _ f us m hin hel
  rw [h5] at e1; cases e1
  exact ⟨a, n, e2, e3⟩
theorem op_load {T : Nat} {x : Operand} (hT : TabOk P tab) (ho : o.op = .load T x) {i : TI} (hi : look tab T = some i) (hR : Rel G σ a w)
    (h : (match σ.eval x with
      | .rp ts x f => chk (Nat.ble (f + i.cells.size) ts.size) (K (one i (takeAV ts x f i.cells.size)) σ)
      | .bp r f => match σ.roots[r]? with
        | some ⟨.box cs _, _, _⟩ => chk (Nat.ble (f + i.cells.size) cs.length) (K (one i (headAV i.cells.size (dropAV f (.ofList cs)))) σ)
        | _ => none
      | .ep r a j f => match σ.roots[r]? with
        | some ⟨.row o ts l, v, b⟩ => chk (Nat.beq a b && Nat.ble (f + i.cells.size) ts.size) (K (one i (takeEl o r v j ts (rd ts l j) f i.cells.size 0)) σ)
        | _ => none
      | .ip r v j f m g => match σ.roots[r]? with
        | some ⟨.row true ts l, w, _⟩ => match innerOf ts (rd ts l j) f with
          | some ⟨us, n⟩ => chk (Nat.beq v w && Nat.ble (g + i.cells.size) us.size) (K (one i (takeAV us (rd us n m) g i.cells.size)) σ)
          | none => none
        | _ => none
      | _ => none) = some r) : Reads P G σ w o a K r := by
  have hx := hR.eval x
  have h1 := (hT T i hi).one
  have fin : ∀ (b p : Nat) (vs : List Value) (cs : AV), a.eval x = .pointer (some ⟨b, p, none⟩) → vs.length = i.cells.size → (∀ j, j < vs.length → at_ w b (p + j) = some (vs.getD j undef)) →
      (∀ G' R' w', Evo G σ.roots w G' R' w' → (∀ r ∈ readRoots σ o, sameR σ.roots R' r = true) → ∀ j, j < vs.length → at_ w' b (p + j) = some (vs.getD j undef)) →
      (avR G σ.roots w cs).2 vs → K (one i cs) σ = some r → Reads P G σ w o a K r := by
    intro b p vs cs e hl hc hkp hcs hK
    refine ⟨_, if i.agg then .agg vs.toArray else vs.getD 0 undef, hK, ⟨?_, fun G' R' w' hE hs => ?_⟩, one_av hl h1 hcs⟩
    · have := run_load_cells hT hi (w := w) vs hl hc
      simp [execOp, ho, Instr.loadAt, e, Instr.sureAddr, this]
    · have := run_load_cells hT hi (w := w') vs hl (hkp G' R' w' hE hs)
      simp [execOp, ho, Instr.loadAt, e, Instr.sureAddr, this]
  have hrr : readRoots σ o = (match σ.eval x with | .bp r _ => [r] | .ep r _ _ _ => [r] | .ip r _ _ _ _ _ => [r] | _ => []) := by simp only [readRoots, ho]; cases σ.eval x <;> rfl
  generalize σ.eval x = av at h hx hrr
  cases av with
  | rp ts y f =>
    obtain ⟨hb, hK⟩ := chk_some h
    obtain ⟨b, p, e, g⟩ := hx
    obtain ⟨vs, hl, hc, ha⟩ := takeAV_spec (c := vw G w) (R' := σ.roots) ts y b p 0 f i.cells.size ((elG_ro ts y b p 0).1 g) (ble_nat hb)
    exact fin b (p + f) vs _ e hl (fun j hj => at_u (hc j (hl ▸ hj))) (fun G' R' w' hE _ j hj => at_u (vw_evo hE _ _ _ (hc j (hl ▸ hj)))) ha hK
  | bp r' f =>
    obtain ⟨q, hq, g⟩ := hx
    simp only [hq] at h
    obtain ⟨k, ver, anc⟩ := q
    cases k with
    | box cs ss =>
      obtain ⟨hb, hK⟩ := chk_some h
      obtain ⟨b, p, ea, e⟩ := g cs.length .nil rfl
      obtain ⟨_, b', p', ea', hcs⟩ := hR.roots r' _ hq
      rw [ea] at ea'; cases ea'
      obtain ⟨vs, hl, hc, ha⟩ := box_cells cs p f i.cells.size (fun f hf => let ⟨_, _, v, e, g⟩ := hcs f hf; ⟨v, e, g⟩) (ble_nat hb)
      refine fin b (p + f) vs _ e hl (fun j hj => hc j (hl ▸ hj)) (fun G' R' w' hE hs j hj => ?_) ha hK
      have hb' := ble_nat hb
      obtain ⟨c1, _, u, c2, _⟩ := hcs (f + j) (by omega)
      have := box_same hE hq (hs r' (by rw [hrr]; exact List.mem_singleton.2 rfl)) ea c1 (lt_of_at c2)
      rw [show p + f + j = p + (f + j) by omega, this, show p + (f + j) = p + f + j by omega]
      exact hc j (hl ▸ hj)
    | _ => cases h
  | ep r' a' j f =>
    obtain ⟨q, hq, hle, g⟩ := hx
    simp only [hq] at h
    obtain ⟨k, ver, anc⟩ := q
    cases k with
    | row ow ts l =>
      obtain ⟨hb, hK⟩ := chk_some h
      obtain ⟨hb1, hb2⟩ := and2 hb
      have hb1 := beq_nat hb1
      obtain ⟨hj, b, p, ea, e⟩ := g hb1.symm ts (List.length l) rfl
      have hro := hR.roots r' _ hq
      obtain ⟨b', p', ea', hc0, hel⟩ := row_elem (show rowG G w (cvOf G w r' ow) (.of r' 0) ts l (G.anch r').1 (G.anch r').2 from hro) hj
      rw [ea] at ea'; cases ea'
      obtain ⟨vs, hl, hc, ha⟩ := takeEl_spec (G := G) (c := at_ w) (R' := σ.roots) (own := ow) (r := r') (s := ver) (i := j) (w := w) (fun k t x v hs h => by
          cases ow with
          | false => exact h
          | true => cases t <;> first | exact h | cases hs) ts (rd ts l j) (p + j * ts.size) f i.cells.size 0 (j * ts.size) hel (ble_nat hb2) (fun k t x v h1 h2 h3 h4 h5 => by
          refine ⟨_, hq, Nat.le_refl _, fun _ ow' us m hk => ?_⟩
          cases hk
          simp only [Nat.zero_add]
          exact ⟨hj, h3, b, p, ea, (hc0 k h3).1, h4⟩)
      refine fin b (p + j * ts.size + f) vs _ e hl (fun j hj => hc j (hl ▸ hj)) (fun G' R' w' hE hs j' hj' => ?_) ha hK
      have hb' := ble_nat hb2
      have c0 := hc j' (hl ▸ hj')
      have c1 := (hc0 (f + j') (by omega)).1
      rw [show p + j * ts.size + (f + j') = p + j * ts.size + f + j' by omega] at c1
      rw [(row_same hE hq (hs r' (by rw [hrr]; exact List.mem_singleton.2 rfl)) 0 _ _ (lt_of_at c0) c1).2.1]
      exact c0
    | _ => cases h
  | ip r' s' j f m g =>
    obtain ⟨q, hq, hle, gg⟩ := hx
    simp only [hq] at h
    obtain ⟨k, ver, anc⟩ := q
    cases k with
    | row ow ts l =>
      cases ow with
      | false => cases h
      | true =>
        cases hin : innerOf ts (rd ts l j) f with
        | none => simp only [hin] at h; cases h
        | some p =>
          obtain ⟨us, n⟩ := p
          simp only [hin] at h
          obtain ⟨hb, hK⟩ := chk_some h
          obtain ⟨hb1, hb2⟩ := and2 hb
          have hb1 := beq_nat hb1
          obtain ⟨i1, i2, us', m', i3, i4, b, p, b', p', n', c', i5, i6, i7, e⟩ := gg hb1.symm true ts l rfl
          rw [hin] at i3; cases i3
          have hil : (avR G σ.roots w (.il r' s' j f)).1 (.slice (some ⟨b', p', none⟩) n' c') := ⟨_, hq, hle, fun he ow' ts' l' hk => by
            cases hk; exact ⟨i1, i2, b, p, i5, i6, i7⟩⟩
          obtain ⟨_, _, a1, n1, e1, e2⟩ := il_spec hR.roots hq hb1.symm hin hil
          obtain ⟨bb, pp, ea, hc0, hel⟩ := row_elem e2 i4
          cases e1; cases ea
          obtain ⟨vs, hl, hc, ha⟩ := takeAV_spec (c := at_ w) (R' := σ.roots) us (rd us n m) b' (p' + m * us.size) (m * us.size) g i.cells.size hel (ble_nat hb2)
          refine fin b' (p' + m * us.size + g) vs _ e hl (fun j hj => hc j (hl ▸ hj)) (fun G' R' w' hE hs j' hj' => ?_) ha hK
          have hb' := ble_nat hb2
          have c0 := hc j' (hl ▸ hj')
          have c1 := (hc0 (g + j') (by omega)).1
          rw [show p' + m * us.size + (g + j') = p' + m * us.size + g + j' by omega] at c1
          rw [(row_same hE hq (hs r' (by rw [hrr]; exact List.mem_singleton.2 rfl)) _ _ _ (lt_of_at c0) c1).2.1]
          exact c0
    | _ => cases h
  | _ => cases h
/-! ### Operations that look at temporaries alone -/
variable {soft : Bool} {Γ : List (Nat × Ent)} {call : Nat → List AV → St → (AV → St → Option R) → Option R} {k : Nat}
theorem op_move {x : Operand} (ho : o.op = .move x) (hR : Rel G σ a w) (h : evOp tab soft Γ call k o σ K = some r) : Reads P G σ w o a K r := by
  have fin : K (σ.eval x) σ = some r → Reads P G σ w o a K r := fun h => Reads.mk' h (fun w' _ => by simp [execOp, ho]) (hR.eval x)
  by_cases hc : x = .const (.slice none 0 0)
  · subst hc
    simp only [evOp, ho] at h
    split at h
    · rename_i ts he
      exact Reads.mk' h (x := .slice none 0 0) (fun w' _ => by simp [execOp, ho, Act.eval]) ⟨none, rfl⟩
    · cases h
  · refine fin ?_
    unfold evOp at h
    rw [ho] at h
    split at h
    all_goals first
      | contradiction
      | (simp only [Op.move.injEq] at *; subst_vars; first | exact h | exact absurd rfl hc)
theorem op_assign {x : Operand} (ho : o.op = .assign x) (hR : Rel G σ a w) (h : evOp tab soft Γ call k o σ K = some r) : Reads P G σ w o a K r := by
  have fin : K (σ.eval x) σ = some r → Reads P G σ w o a K r := fun h => Reads.mk' h (fun w' _ => by simp [execOp, ho]) (hR.eval x)
  by_cases hc : x = .const (.slice none 0 0)
  · subst hc
    simp only [evOp, ho] at h
    split at h
    · rename_i ts he
      exact Reads.mk' h (x := .slice none 0 0) (fun w' _ => by simp [execOp, ho, Act.eval]) ⟨none, rfl⟩
    · cases h
  · refine fin ?_
    unfold evOp at h
    rw [ho] at h
    split at h
    all_goals first
      | contradiction
      | (simp only [Op.assign.injEq] at *; subst_vars; first | exact h | exact absurd rfl hc)
theorem op_pick {c x y : Operand} (ho : o.op = .pick c x y) (hR : Rel G σ a w) (h : evOp tab soft Γ call k o σ K = some r) : Reads P G σ w o a K r := by
  have hc := hR.eval c
  simp only [evOp, ho] at h
  generalize σ.eval c = av at h hc
  split at h
  · rename_i cb
    have hc : a.eval c = .bool cb := hc
    rcases br_some h with ⟨e, hK⟩ | ⟨e, hK⟩
    · exact Reads.mk' hK (x := a.eval x) (fun w' _ => by simp [execOp, ho, hc, e, asBool]) (hR.eval x)
    · exact Reads.mk' hK (x := a.eval y) (fun w' _ => by simp [execOp, ho, hc, e, asBool]) (hR.eval y)
  · cases h
theorem op_not {T : Nat} {x : Operand} (ho : o.op = .unOp .not T x) (hR : Rel G σ a w) (h : evOp tab soft Γ call k o σ K = some r) : Reads P G σ w o a K r := by
  have hx := hR.eval x
  simp only [evOp, ho] at h
  generalize σ.eval x = av at h hx
  split at h
  · rename_i b
    have hx : a.eval x = .bool b := hx
    exact Reads.mk' h (x := .bool (!b)) (fun w' _ => by simp [execOp, ho, hx, Op.unary]) rfl
  · cases h
theorem op_neg {T : Nat} {x : Operand} (ho : o.op = .unOp .neg T x) (hR : Rel G σ a w) (h : evOp tab soft Γ call k o σ K = some r) : Reads P G σ w o a K r := by
  have hx := hR.eval x
  simp only [evOp, ho] at h
  generalize σ.eval x = av at h hx
  split at h
  · rename_i kd n
    have hx : a.eval x = .int kd n := hx
    exact Reads.mk' h (x := .int kd (subI kd 0 n)) (fun w' _ => by simp [execOp, ho, hx, Op.unary, Op.intArith, subI]) rfl
  · cases h
/-- a known address, and one that lies off cells behind it -/
theorem ptr_shift {Rs : List Root} {tm : List AV} {av : AV} {v : Value} (hp : ptrOk ⟨tm, Rs⟩ av = true) (h : (avR G Rs w av).1 v) :
    ∃ b p, v = .pointer (some ⟨b, p, none⟩) ∧ ∀ off, (match av with
      | .rp ts x g => (avR G Rs w (.rp ts x (g + off))).1 (.pointer (some ⟨b, p + off, none⟩))
      | .bp r g => (avR G Rs w (.bp r (g + off))).1 (.pointer (some ⟨b, p + off, none⟩))
      | .ep r a j g => (avR G Rs w (.ep r a j (g + off))).1 (.pointer (some ⟨b, p + off, none⟩))
      | .ip r s j f m g => (avR G Rs w (.ip r s j f m (g + off))).1 (.pointer (some ⟨b, p + off, none⟩))
      | _ => True) := by
  cases av with
  | rp ts x g =>
    obtain ⟨b, p, e, k⟩ := h
    exact ⟨b, p + g, e, fun off => ⟨b, p, by rw [Nat.add_assoc], k⟩⟩
  | bp r g =>
    obtain ⟨q, hq, k⟩ := h
    simp only [ptrOk, hq] at hp
    obtain ⟨kk, ver, anc⟩ := q
    cases kk with
    | box cs ss =>
      obtain ⟨b, p, ea, e⟩ := k cs.length .nil rfl
      exact ⟨b, p + g, e, fun off => ⟨_, hq, fun n t hh => ⟨b, p, ea, by rw [Nat.add_assoc]⟩⟩⟩
    | _ => cases hp
  | ep r a j g =>
    obtain ⟨q, hq, hle, k⟩ := h
    simp only [ptrOk, hq] at hp
    obtain ⟨kk, ver, anc⟩ := q
    cases kk with
    | row ow ts l =>
      obtain ⟨hj, b, p, ea, e⟩ := k (beq_nat hp).symm ts (List.length l) rfl
      exact ⟨b, p + j * ts.size + g, e, fun off => ⟨_, hq, hle, fun ha ts' n hh => by
        cases hh; exact ⟨hj, b, p, ea, by rw [Nat.add_assoc]⟩⟩⟩
    | _ => cases hp
  | ip r s j f m g =>
    obtain ⟨q, hq, hle, k⟩ := h
    simp only [ptrOk, hq] at hp
    obtain ⟨kk, ver, anc⟩ := q
    cases kk with
    | row ow ts l =>
      cases ow with
      | false => cases hp
      | true =>
        obtain ⟨h1, h2, us, m', h3, h4, b, o, b', o', n, c, h5, h6, h7, e⟩ := k (beq_nat hp).symm true ts l rfl
        exact ⟨b', _, e, fun off => ⟨_, hq, hle, fun ha ow ts' l' hh => by
          cases hh; exact ⟨h1, h2, us, m', h3, h4, b, o, b', o', n, c, h5, h6, h7, by rw [Nat.add_assoc]⟩⟩⟩
    | _ => cases hp
  | _ => cases hp
theorem op_nilCheck {x : Operand} (ho : o.op = .nilCheck x) (hR : Rel G σ a w) (h : evOp tab soft Γ call k o σ K = some r) : Reads P G σ w o a K r := by
  simp only [evOp, ho] at h
  obtain ⟨hp, hK⟩ := chk_some h
  obtain ⟨b, p, e, _⟩ := ptr_shift hp (hR.eval x)
  exact Reads.mk' hK (x := a.eval x) (fun w' _ => by simp [execOp, ho, e]) (hR.eval x)
theorem op_fieldAddr {T f : Nat} {x : Operand} (hT : TabOk P tab) (ho : o.op = .fieldAddr T x f) (hR : Rel G σ a w) (h : evOp tab soft Γ call k o σ K = some r) : Reads P G σ w o a K r := by
  simp only [evOp, ho] at h
  split at h
  · rename_i i hi
    cases hf : i.offs[f]? with
    | none => rw [hf] at h; cases h
    | some off =>
      rw [hf] at h
      obtain ⟨hp, hK⟩ := chk_some h
      obtain ⟨fs, hu, fl, e1, e2, ⟨I, e3, e4, e5⟩, _⟩ := (hT T i hi).offs f off hf
      obtain ⟨b, p, e, hs⟩ := ptr_shift hp (hR.eval x)
      have hrun : ∀ w', True → (execOp a.eval o).run P w' = .ok (.value (.pointer (some ⟨b, p + off.1, none⟩))) w' := by
        intro w' _
        have h0 : ¬ I.size = 0 := by omega
        simp [execOp, ho, Instr.fieldAt, run_underlying hu, e1, e, Instr.sureAddr, fieldPlace, sizeOf, typeInfo, e3, h0, add_at, e2]
      have hsv := hs off.1
      generalize σ.eval x = av at hK hsv hp
      cases av with
      | rp ts y g => exact Reads.mk' hK hrun hsv
      | bp r' g => exact Reads.mk' hK hrun hsv
      | ep r' a' j g => exact Reads.mk' hK hrun hsv
      | ip r' s' j f' m g => exact Reads.mk' hK hrun hsv
      | _ => cases hK
  · cases h
theorem op_binI {op : BinOp} {T T' : Nat} {x y : Operand} (ho : o.op = .binOp op T x y T') {k : IntKind} {m n : Int} (hx : a.eval x = .int k m) (hy : a.eval y = .int k n) {v : AV} {c : Option Bool} (hv : binI op k m n = some (c, v)) (hc : ∀ b, c = some b → b = true) :
    ∃ z, (∀ w', (execOp a.eval o).run P w' = .ok (.value z) w') ∧ (avR G σ.roots w v).1 z := by
  have hne : ∀ {n : Int}, notB (eqI n 0) = true → n ≠ 0 := fun h => by simpa [notB, eqI] using h
  cases op <;> simp only [binI, Option.some.injEq, Prod.mk.injEq, reduceCtorEq] at hv
  case add => obtain ⟨_, e⟩ := hv; subst e; exact ⟨_, fun w' => by simp [execOp, ho, hx, hy, eqGuard, binOp, Op.intArith]; rfl, rfl⟩
  case sub => obtain ⟨_, e⟩ := hv; subst e; exact ⟨_, fun w' => by simp [execOp, ho, hx, hy, eqGuard, binOp, Op.intArith]; rfl, rfl⟩
  case mul => obtain ⟨_, e⟩ := hv; subst e; exact ⟨_, fun w' => by simp [execOp, ho, hx, hy, eqGuard, binOp, Op.intArith]; rfl, rfl⟩
  case quo => obtain ⟨h0, e⟩ := hv; subst e; subst h0; exact ⟨_, fun w' => by simp [execOp, ho, hx, hy, eqGuard, binOp, Op.intDiv, hne (hc _ rfl)]; rfl, rfl⟩
  case rem => obtain ⟨h0, e⟩ := hv; subst e; subst h0; exact ⟨_, fun w' => by simp [execOp, ho, hx, hy, eqGuard, binOp, Op.intDiv, hne (hc _ rfl)]; rfl, rfl⟩
  case and => obtain ⟨_, e⟩ := hv; subst e; exact ⟨_, fun w' => by simp [execOp, ho, hx, hy, eqGuard, binOp, Op.intBits]; rfl, rfl⟩
  case or => obtain ⟨_, e⟩ := hv; subst e; exact ⟨_, fun w' => by simp [execOp, ho, hx, hy, eqGuard, binOp, Op.intBits]; rfl, rfl⟩
  case xor => obtain ⟨_, e⟩ := hv; subst e; exact ⟨_, fun w' => by simp [execOp, ho, hx, hy, eqGuard, binOp, Op.intBits]; rfl, rfl⟩
  all_goals
    obtain ⟨_, e⟩ := hv; subst e
    exact ⟨_, fun w' => by simp [execOp, ho, hx, hy, eqGuard, binOp, Op.intCmp]; rfl, by simp [avR, ro, eqI, ltI, leI, notB]; try first | rfl | (rw [bne]; congr 1)⟩
theorem run_eql_bool {T : Nat} {m n : Bool} {w : World} (h : P.underlying T = some .bool) : (binOp .eql T (.bool m) (.bool n)).run P w = .ok (.bool (m == n)) w := by
  show ((Op.equalIn (9999 + 1) T (.bool m) (.bool n)).bind fun b => Sem.pure (Value.bool b)).run P w = _
  have := run_equalIn_bool' w 9999 T m n h
  have hb := Sem.run_bind P w (Op.equalIn (9999 + 1) T (.bool m) (.bool n)) (fun b => Sem.pure (Value.bool b))
  refine hb.trans ?_
  rw [this]; rfl
theorem run_neq_bool {T : Nat} {m n : Bool} {w : World} (h : P.underlying T = some .bool) : (binOp .neq T (.bool m) (.bool n)).run P w = .ok (.bool (!(m == n))) w := by
  show ((Op.equalIn (9999 + 1) T (.bool m) (.bool n)).bind fun b => Sem.pure (Value.bool (!b))).run P w = _
  have := run_equalIn_bool' w 9999 T m n h
  have hb := Sem.run_bind P w (Op.equalIn (9999 + 1) T (.bool m) (.bool n)) (fun b => Sem.pure (Value.bool (!b)))
  refine hb.trans ?_
  rw [this]; rfl
theorem part_one {T : Nat} {d : TypeDesc} {xs : Array Value} {off : Nat} {v : Value} {w : World} (hu : P.underlying T = some d) (hd : aggD d = false) (hv : xs[off]? = some v) : (part T xs off).run P w = .ok v w := by
  have hagg : (isAgg T).run P w = .ok false w := by
    unfold isAgg
    rw [Sem.run_bind, run_underlying hu w]
    cases d <;> simp_all [aggD]
  simp [part, Sem.run_bind, hagg, hv]
/-- two structs' cells, compared -/
theorem run_eqFields {G : Gh} {Rs : List Root} {w : World} {d : Nat} : ∀ (ts : Ty) (fs : List Field) (p q : List Value) (a b : AV) (xs ys : List Value) (c : Bool) (w' : World), eqF P ts fs p.length → p.length = q.length → eqCs ts a b = some c →
    (avR G Rs w a).2 xs → (avR G Rs w b).2 ys → (Op.eqFields (d + 1) (p ++ xs).toArray (q ++ ys).toArray fs).run P w' = .ok c w' := by
  intro ts
  induction ts with
  | nil =>
    intro fs p q a b xs ys c w' he hp hc hx hy
    cases fs with
    | nil => cases a <;> cases b <;> simp only [eqCs, reduceCtorEq, Option.some.injEq] at hc <;> subst hc <;> simp [Op.eqFields]
    | cons f fs => exact he.elim
  | cons t ts _ ih =>
    intro fs p q a b xs ys c w' he hp hc hx hy
    cases fs with
    | nil => cases t <;> exact he.elim
    | cons f fs =>
      have step : ∀ (u v : AV) (a' b' : AV) (c1 c2 : Bool) (x y : Value) (xs' ys' : List Value), xs = x :: xs' → ys = y :: ys' → (avR G Rs w a').2 xs' → (avR G Rs w b').2 ys' → eqCs ts a' b' = some c2 → c = (c1 && c2) → f.name ≠ "_" → f.offset = p.length → eqF P ts fs (p.length + 1) →
          (∃ d, P.underlying f.type = some d ∧ aggD d = false) → (∀ w', (Op.equalIn (d + 1) f.type x y).run P w' = .ok c1 w') → (Op.eqFields (d + 1) (p ++ xs).toArray (q ++ ys).toArray (f :: fs)).run P w' = .ok c w' := by
        intro u v a' b' c1 c2 x y xs' ys' e1 e2 h1 h2 hc' e n1 n2 n4 hd hq
        subst e1; subst e2; subst e
        obtain ⟨dd, hd1, hd2⟩ := hd
        have px := part_one (w := w') hd1 hd2 (xs := (p ++ x :: xs').toArray) (off := p.length) (v := x) (by simp)
        have py := part_one (w := w') hd1 hd2 (xs := (q ++ y :: ys').toArray) (off := p.length) (v := y) (by rw [hp]; simp)
        have hrest := ih fs (p ++ [x]) (q ++ [y]) a' b' xs' ys' c2 w' (by simpa using n4) (by simpa using hp) hc' h1 h2
        simp only [List.append_assoc, List.singleton_append] at hrest
        have hq := hq w'
        cases c1 <;> simp [Op.eqFields, Sem.run_bind, n1, n2, px, py, hq, hrest]
      cases a with
      | cons u a' =>
        cases b with
        | cons v b' =>
          obtain ⟨x, xs', e1, g1, h1⟩ := hx
          obtain ⟨y, ys', e2, g2, h2⟩ := hy
          cases t with
          | bool =>
            obtain ⟨n1, n2, n3, n4⟩ := he
            cases u with
            | val tu z =>
              cases v with
              | val tv z' =>
                cases tu with
                | bool =>
                  cases tv with
                  | bool =>
                    simp only [eqCs] at hc
                    split at hc
                    · rename_i c2 hc2
                      cases hc
                      have g1 : x = .bool z := g1
                      have g2 : y = .bool z' := g2
                      refine step (.val .bool z) (.val .bool z') a' b' (eqB z z') c2 x y xs' ys' e1 e2 h1 h2 hc2 rfl n1 n2 n4 ⟨_, n3, rfl⟩ (fun w' => ?_)
                      rw [g1, g2]; exact run_equalIn_bool' w' d f.type z z' n3
                    · cases hc
                  | _ => simp [eqCs] at hc
                | _ => simp [eqCs] at hc
              | _ => simp [eqCs] at hc
            | _ => simp [eqCs] at hc
          | int kk =>
            obtain ⟨n1, n2, n3, n4⟩ := he
            cases u with
            | val tu z =>
              cases v with
              | val tv z' =>
                cases tu with
                | int j =>
                  cases tv with
                  | int k' =>
                    simp only [eqCs] at hc
                    split at hc
                    · rename_i c2 hjk hc2
                      cases hc
                      have hjk : j = k' := by simpa using hjk
                      subst hjk
                      have g1 : x = .int j z := g1
                      have g2 : y = .int j z' := g2
                      refine step (.val (.int j) z) (.val (.int j) z') a' b' (eqI z z') c2 x y xs' ys' e1 e2 h1 h2 hc2 rfl n1 n2 n4 ⟨_, n3, rfl⟩ (fun w' => ?_)
                      rw [g1, g2, run_equalIn_int w' d f.type j kk z z' n3]; rfl
                    · cases hc
                  | _ => simp [eqCs] at hc
                | _ => simp [eqCs] at hc
              | _ => simp [eqCs] at hc
            | _ => simp [eqCs] at hc
          | _ => exact he.elim
        | _ => first | exact hy.elim | simp [eqCs] at hc
      | _ => first | exact hx.elim | simp [eqCs] at hc
  | _ => intro fs p q a b xs ys c w' he; cases fs <;> exact he.elim
theorem op_shift {op : BinOp} {T T' : Nat} {x y : Operand} (ho : o.op = .binOp op T x y T') {j kk : IntKind} {m n : Int} (hx : a.eval x = .int j m) (hy : a.eval y = .int kk n) (h0 : leI 0 n = true) (w' : World) :
    (op = .shl → (execOp a.eval o).run P w' = .ok (.value (.int j (shlI j m n))) w') ∧ (op = .shr → (execOp a.eval o).run P w' = .ok (.value (.int j (shrI j m n))) w') := by
  have h0 : ¬ n < 0 := by simp [leI] at h0; omega
  exact ⟨fun e => by subst e; simp [execOp, ho, hx, hy, eqGuard, binOp, Op.shift, h0, shlI], fun e => by subst e; simp [execOp, ho, hx, hy, eqGuard, binOp, Op.shift, h0, shrI]⟩
theorem op_binop {op : BinOp} {T T' : Nat} {x y : Operand} (hT : TabOk P tab) (ho : o.op = .binOp op T x y T') (hR : Rel G σ a w) (h : (match binop tab T op (σ.eval x) (σ.eval y) with | some (none, v) => K v σ | some (some b, v) => br b (K v σ) none | none => none) = some r) : Reads P G σ w o a K r := by
  have hx := hR.eval x
  have hy := hR.eval y
  have h : ∃ c v, binop tab T op (σ.eval x) (σ.eval y) = some (c, v) ∧ (∀ b, c = some b → b = true) ∧ K v σ = some r := by
    split at h
    · rename_i v hb; exact ⟨_, v, hb, fun b e => (by cases e), h⟩
    · rename_i b v hb
      rcases br_some h with ⟨e, hK⟩ | ⟨_, hK⟩
      · subst e; exact ⟨_, v, hb, fun b e => (by cases e; rfl), hK⟩
      · cases hK
    · cases h
  obtain ⟨c, v, hb, hc, h⟩ := h
  generalize σ.eval x = ax at hb hx
  generalize σ.eval y = ay at hb hy
  unfold binop at hb
  split at hb
  · rename_i j m kk n
    have hx : a.eval x = .int j m := hx
    have hy : a.eval y = .int kk n := hy
    split at hb
    · simp only [Option.some.injEq, Prod.mk.injEq] at hb
      obtain ⟨h0, e⟩ := hb
      subst e
      subst h0
      exact Reads.mk' h (x := .int j (shlI j m n)) (fun w' _ => (op_shift ho hx hy (hc _ rfl) w').1 rfl) rfl
    · simp only [Option.some.injEq, Prod.mk.injEq] at hb
      obtain ⟨h0, e⟩ := hb
      subst e
      subst h0
      exact Reads.mk' h (x := .int j (shrI j m n)) (fun w' _ => (op_shift ho hx hy (hc _ rfl) w').2 rfl) rfl
    · split at hb
      · rename_i hjk
        subst hjk
        obtain ⟨z, e1, e2⟩ := op_binI (G := G) (σ := σ) (P := P) (w := w) ho hx hy hb hc
        exact Reads.mk' h (fun w' _ => e1 w') e2
      · cases hb
  · rename_i m n
    split at hb
    · rename_i hl
      have hu := (hT T _ hl).bool rfl rfl
      have hx : a.eval x = .bool m := hx
      have hy : a.eval y = .bool n := hy
      cases op <;> simp only at hb <;> (try cases hb)
      · refine Reads.mk' h (x := .bool (eqB m n)) (fun w' _ => ?_) rfl
        have := run_eql_bool (m := m) (n := n) (w := w') hu
        simp [execOp, ho, hx, hy, eqGuard, this, eqB]
      · refine Reads.mk' h (x := .bool (notB (eqB m n))) (fun w' _ => ?_) rfl
        have := run_neq_bool (m := m) (n := n) (w := w') hu
        simp [execOp, ho, hx, hy, eqGuard, this, eqB, notB]
    · cases hb
  · rename_i ca cb
    split at hb
    · rename_i ts _ _ _ hl
      obtain ⟨f1, f2, f3, f4⟩ := (hT T _ hl).eq rfl rfl
      obtain ⟨xs, ex, hxs⟩ := hx
      obtain ⟨ys, ey, hys⟩ := hy
      have key : ∀ c w', eqCs ts ca cb = some c → (Op.equalIn 10000 T (.agg xs.toArray) (.agg ys.toArray)).run P w' = .ok c w' := by
        intro c w' hc
        rw [run_equalIn_agg w' 9999 T _ _ f1 f2]
        have := run_eqFields (d := 9998) ts (P.fieldsOf T).toList [] [] ca cb xs ys c w' f4 rfl hc hxs hys
        simpa using this
      cases op <;> simp only at hb <;> (try cases hb)
      · split at hb
        · rename_i c' hc'
          cases hb
          refine Reads.mk' h (x := .bool c') (fun w' _ => ?_) rfl
          simp [execOp, ho, ex, ey, run_eqGuard_agg w' _ T x y _ _ f3, run_eql_struct, key c' w' hc']
        · cases hb
      · split at hb
        · rename_i c' hc'
          cases hb
          refine Reads.mk' h (x := .bool (notB c')) (fun w' _ => ?_) rfl
          simp [execOp, ho, ex, ey, run_eqGuard_agg w' _ T x y _ _ f3, run_neq_struct, key c' w' hc', notB]
        · cases hb
    · cases hb
  · cases hb
theorem nilB_some {α β : Type} {l : List α} {x y : Option β} {r : β} (h : nilB l x y = some r) : y = some r ∧ (l = [] → x = some r) := by
  cases l with
  | nil =>
    simp only [nilB, both] at h
    split at h
    · rename_i e; exact ⟨e ▸ h, fun _ => h⟩
    · cases h
  | cons _ _ => exact ⟨h, fun e => by cases e⟩
theorem op_convert {S D : Nat} {x : Operand} (hT : TabOk P tab) (ho : o.op = .convert S D x) (hR : Rel G σ a w) (h : evOp tab soft Γ call k o σ K = some r) : Reads P G σ w o a K r := by
  have hx := hR.eval x
  simp only [evOp, ho] at h
  split at h
  · rename_i kk n d e1 e2 e3 e4 he hl
    rw [he] at hx
    have hx : a.eval x = .int kk n := hx
    split at h
    · rename_i ks f1 f2 f3 f4 hl'
      have u1 := (hT D _ hl).int d rfl rfl
      have u2 := (hT S _ hl').int ks rfl rfl
      refine Reads.mk' h (x := .int d (cvtI d n)) (fun w' _ => ?_) rfl
      simp [execOp, ho, hx, convert, run_underlying u1, run_underlying u2, Conv.intToInt, cvtI]
    · cases h
  · cases h
theorem avs_len {Rs : List Root} : ∀ (cs : AV) (vs : List Value), (avR G Rs w cs).2 vs → vs.length = lenAV cs := by
  intro cs
  induction cs with
  | nil => intro vs h; cases h; rfl
  | cons c cs _ ih => rintro _ ⟨v, vs', rfl, _, h⟩; simp [lenAV, ih vs' h]
  | _ => intro vs h; exact h.elim
/-- values of a row of abstract values, one by one -/
theorem avs_get {Rs : List Root} : ∀ (cs : AV) (vs : List Value), (avR G Rs w cs).2 vs → vs.length = cs.toList.length ∧ ∀ f, f < vs.length → (avR G Rs w (cs.toList.getD f .undef)).1 (vs.getD f undef) := by
  intro cs
  induction cs with
  | nil => intro vs h; cases h; exact ⟨rfl, fun f hf => by simp at hf⟩
  | cons c cs _ ih =>
    rintro _ ⟨v, vs', rfl, h1, h2⟩
    obtain ⟨k1, k2⟩ := ih vs' h2
    refine ⟨by simp [AV.toList, k1], fun f hf => ?_⟩
    cases f with
    | zero => exact h1
    | succ f => exact k2 f (by simpa using hf)
  | _ => intro vs h; exact h.elim
theorem avs_drop {Rs : List Root} : ∀ (n : Nat) (cs : AV) (vs : List Value), (avR G Rs w cs).2 vs → n ≤ vs.length → (avR G Rs w (dropAV n cs)).2 (vs.drop n)
  | 0, cs, vs, h, _ => by simpa [dropAV] using h
  | n + 1, .cons c cs, vs, ⟨v, vs', e, _, h⟩, hn => by subst e; exact avs_drop n cs vs' h (by simpa using hn)
  | n + 1, .nil, vs, h, hn => by cases h; simp at hn
  | n + 1, .undef, _, h, _ => h.elim
  | n + 1, .val _ _, _, h, _ => h.elim
  | n + 1, .nl _, _, h, _ => h.elim
  | n + 1, .agg _, _, h, _ => h.elim
  | n + 1, .tup _, _, h, _ => h.elim
  | n + 1, .rp _ _ _, _, h, _ => h.elim
  | n + 1, .bp _ _, _, h, _ => h.elim
  | n + 1, .ep _ _ _ _, _, h, _ => h.elim
  | n + 1, .sl _ _, _, h, _ => h.elim
  | n + 1, .hd _ _ _, _, h, _ => h.elim
  | n + 1, .tl _ _ _, _, h, _ => h.elim
  | n + 1, .il _ _ _ _, _, h, _ => h.elim
  | n + 1, .ip _ _ _ _ _ _, _, h, _ => h.elim
  | n + 1, .pd _ _ _ _ _ _, _, h, _ => h.elim
  | n + 1, .fn _ _, _, h, _ => h.elim
theorem avs_head {Rs : List Root} : ∀ (n : Nat) (cs : AV) (vs : List Value), (avR G Rs w cs).2 vs → n ≤ vs.length → (avR G Rs w (headAV n cs)).2 (vs.take n)
  | 0, cs, vs, _, _ => by cases cs <;> exact rfl
  | n + 1, .cons c cs, vs, ⟨v, vs', e, g, h⟩, hn => by subst e; exact ⟨v, vs'.take n, rfl, g, avs_head n cs vs' h (by simpa using hn)⟩
  | n + 1, .nil, vs, h, hn => by cases h; simp at hn
  | n + 1, .undef, _, h, _ => h.elim
  | n + 1, .val _ _, _, h, _ => h.elim
  | n + 1, .nl _, _, h, _ => h.elim
  | n + 1, .agg _, _, h, _ => h.elim
  | n + 1, .tup _, _, h, _ => h.elim
  | n + 1, .rp _ _ _, _, h, _ => h.elim
  | n + 1, .bp _ _, _, h, _ => h.elim
  | n + 1, .ep _ _ _ _, _, h, _ => h.elim
  | n + 1, .sl _ _, _, h, _ => h.elim
  | n + 1, .hd _ _ _, _, h, _ => h.elim
  | n + 1, .tl _ _ _, _, h, _ => h.elim
  | n + 1, .il _ _ _ _, _, h, _ => h.elim
  | n + 1, .ip _ _ _ _ _ _, _, h, _ => h.elim
  | n + 1, .pd _ _ _ _ _ _, _, h, _ => h.elim
  | n + 1, .fn _ _, _, h, _ => h.elim
theorem ro_one {u : Nat → Nat → Option Value} {t : Ty} {x : t.den} {v : Value} (h : (ro u t).1 x v) : v.oneCell' = true := by
  cases t with
  | bool => cases h; rfl
  | int k => cases h; rfl
  | str => cases h; rfl
  | slice ts => obtain ⟨a, c, e, _⟩ := h; subst e; rfl
  | nil => exact h.elim
  | cons t ts => exact h.elim
theorem elemTs_spec (hT : TabOk P tab) {T : Nat} {us : Bool × Ty} (h : elemTs tab T = some us) : ∃ e j, P.underlying T = some (.slice e) ∧ look tab e = some j ∧ j.cells = us.2 ∧ (us.1 = true → us.2.hasSl = true) := by
  unfold elemTs at h
  split at h
  · rename_i vs e ow _ offs hl
    split at h
    · rename_i j hj
      cases h
      exact ⟨e, j, (hT T _ hl).slice vs rfl rfl, hj, rfl, fun h => (and2 h).2⟩
    · cases h
  · cases h
theorem size_of (hT : TabOk P tab) {T : Nat} {i : TI} (h : look tab T = some i) (w : World) : (sizeOf T).run P w = .ok i.cells.size w := by
  obtain ⟨I, e1, e2, _⟩ := (hT T i h).info
  simp [sizeOf, typeInfo, e1, e2]
theorem inR_spec {n m : Int} (h : inR n m = true) : 0 ≤ n ∧ n < m := by
  unfold inR at h; simpa using h
theorem upR_spec {n m : Int} (h : upR n m = true) : 0 ≤ n ∧ n ≤ m := by
  unfold upR at h; simpa using h
/-- the head of an own row's reference -/
theorem sl_spec {Rs : List Root} {rr aa anc ver : Nat} {kk : RK} {ts : Ty} {n : Nat} {v : Value} (hq : Rs[rr]? = some ⟨kk, ver, anc⟩) (ha : aa = anc) (hh : kk.hd = some (false, ts, n)) (hv : (avR G Rs w (.sl rr aa)).1 v) : v = .slice (G.anch rr).1 n (G.anch rr).2 := by
  obtain ⟨q, hq', _, g⟩ := hv
  rw [hq] at hq'; cases hq'
  exact g ha.symm ts n hh
theorem op_index {T : Nat} {x ix : Operand} (hT : TabOk P tab) (ho : o.op = .indexAddr T x ix) (hR : Rel G σ a w) (h : evOp tab soft Γ call k o σ K = some r) : Reads P G σ w o a K r := by
  have hx := hR.eval x
  have hix := hR.eval ix
  simp only [evOp, ho] at h
  cases he : elemTs tab T with
  | none => rw [he] at h; cases h
  | some us =>
    rw [he] at h
    obtain ⟨e, j, hu, hj, hjc, _⟩ := elemTs_spec hT he
    have hsz := size_of hT hj
    rw [hjc] at hsz
    generalize σ.eval ix = aix at h hix
    cases aix with
    | val t n =>
      cases t with
      | int kk =>
        have hix : a.eval ix = .int kk n := hix
        -- what an index in range comes to
        have fin : ∀ (n : Int) (b p m c : Nat), a.eval ix = .int kk n → 0 ≤ n → n < (m : Int) → a.eval x = .slice (some ⟨b, p, none⟩) m c → ∀ w', True → (execOp a.eval o).run P w' = .ok (.value (.pointer (some ⟨b, p + natI n * us.2.size, none⟩))) w' := by
          intro n b p m c hix h0 h1 ex w' _
          simp [execOp, ho, Instr.indexAt, hix, asIntOf, run_underlying hu, ex, h0, h1, hsz, add_at, natI]
        have fro : ∀ (ts : Ty) (l : List ts.den) (v : Value), (ro (vw G w) (.slice ts)).1 l v → a.eval x = v → Nat.beq us.2.size ts.size = true → br (inR n (ln l)) (K (.rp ts (rd ts l (natI n)) 0) σ) none = some r → Reads P G σ w o a K r := by
          intro ts l v hro hv hsize h
          rcases br_some h with ⟨hin, hK⟩ | ⟨_, hK⟩
          · obtain ⟨h0, h1⟩ := inR_spec hin
            obtain ⟨a0, c, ev, _, g⟩ := hro
            have hlt : natI n < List.length l := by unfold natI; unfold ln at h1; omega
            obtain ⟨b, p, ea, hro⟩ := g (natI n) hlt
            subst ea
            have hs := beq_nat hsize
            exact Reads.mk' hK (fin n b p _ c hix h0 h1 (hv.trans ev)) ⟨b, p + natI n * ts.size, by rw [hs]; rfl, hro⟩
          · cases hK
        generalize hax : σ.eval x = ax at h hx
        cases ax with
        | val t l =>
          cases t with
          | slice ts =>
            obtain ⟨hsize, h⟩ := chk_some h
            exact fro ts l _ hx rfl hsize h
          | _ => cases h
        | sl r' a' =>
          obtain ⟨q, hq, hle, g⟩ := hx
          simp only [hq] at h
          obtain ⟨k', ver, anc⟩ := q
          have hro := hR.roots r' _ hq
          cases k' with
          | row ow ts l =>
            obtain ⟨hb, h⟩ := chk_some h
            obtain ⟨hb1, hb2⟩ := and2 hb
            have hb1 := beq_nat hb1
            have hb2 := beq_nat hb2
            rcases br_some h with ⟨hin, hK⟩ | ⟨_, hK⟩
            · obtain ⟨h0, h1⟩ := inR_spec hin
              have ev := g hb1.symm ts (List.length l) rfl
              have hlt : natI n < List.length l := by unfold natI; unfold ln at h1; omega
              obtain ⟨b, p, ea, _⟩ := row_elem (show rowG G w (cvOf G w r' ow) (.of r' 0) ts l (G.anch r').1 (G.anch r').2 from hro) hlt
              rw [ea] at ev
              refine Reads.mk' hK (fin n b p _ _ hix h0 h1 ev) ⟨_, hq, hle, fun _ ts' n' hh => ?_⟩
              cases hh
              exact ⟨hlt, b, p, ea, by rw [hb2]; rfl⟩
            · cases hK
          | fro ts l =>
            obtain ⟨hb, h⟩ := chk_some h
            obtain ⟨hb1, hb2⟩ := and2 hb
            exact fro ts l _ hro (g (beq_nat hb1).symm ts (List.length l) rfl) hb2 h
          | _ => cases h
        | hd r' a' m =>
          obtain ⟨q, hq, hle, g⟩ := hx
          simp only [hq] at h
          obtain ⟨k', ver, anc⟩ := q
          have hro := hR.roots r' _ hq
          cases k' with
          | row ow ts l =>
            obtain ⟨hb, h⟩ := chk_some h
            obtain ⟨hb1, hb2⟩ := and2 hb
            have hb1 := beq_nat hb1
            have hb2 := beq_nat hb2
            rcases br_some h with ⟨hin, hK⟩ | ⟨_, hK⟩
            · obtain ⟨h0, h1⟩ := inR_spec hin
              obtain ⟨hm, ev⟩ := g hb1.symm ts (List.length l) rfl
              have hlt : natI n < m := by unfold natI; simp [ln, tk] at h1; omega
              obtain ⟨b, p, ea, _⟩ := row_elem (show rowG G w (cvOf G w r' ow) (.of r' 0) ts l (G.anch r').1 (G.anch r').2 from hro) (show natI n < List.length l by omega)
              rw [ea] at ev
              refine Reads.mk' hK (fin n b p _ _ hix h0 (by unfold natI at hlt; omega) ev) ⟨_, hq, hle, fun _ ts' n' hh => ?_⟩
              cases hh
              exact ⟨by omega, b, p, ea, by rw [hb2]; rfl⟩
            · cases hK
          | _ => cases h
        | tl r' a' m =>
          obtain ⟨q, hq, hle, g⟩ := hx
          simp only [hq] at h
          obtain ⟨k', ver, anc⟩ := q
          have hro := hR.roots r' _ hq
          cases k' with
          | row ow ts l =>
            obtain ⟨hb, h⟩ := chk_some h
            obtain ⟨hb1, hb2⟩ := and2 hb
            have hb1 := beq_nat hb1
            have hb2 := beq_nat hb2
            rcases br_some h with ⟨hin, hK⟩ | ⟨_, hK⟩
            · obtain ⟨h0, h1⟩ := inR_spec hin
              obtain ⟨hm, ev⟩ := g hb1.symm ts (List.length l) rfl
              have hlt : natI n < List.length l - m := by unfold natI; simp [ln, dp] at h1; omega
              have hrow := (show rowG G w (cvOf G w r' ow) (.of r' 0) ts l (G.anch r').1 (G.anch r').2 from hro)
              obtain ⟨b, p, ea, _⟩ := row_elem hrow (show natI n < List.length l by omega)
              have hcap := hrow.1
              rw [ea, if_neg (by omega)] at ev
              simp only [Option.map_some, add_at] at ev
              refine Reads.mk' hK (fin n b _ _ _ hix h0 (by unfold natI at hlt; omega) ev) ⟨_, hq, hle, fun _ ts' n' hh => ?_⟩
              cases hh
              refine ⟨by omega, b, p, ea, ?_⟩
              rw [hb2, Nat.add_mul]; congr 3; omega
            · cases hK
          | _ => cases h
        | il r' s' i f =>
          have hil := hx
          obtain ⟨q, hq, hle, g⟩ := hx
          simp only [hq] at h
          obtain ⟨k', ver, anc⟩ := q
          cases k' with
          | row ow ts l =>
            cases ow with
            | false => cases h
            | true =>
              cases hin : innerOf ts (rd ts l i) f with
              | none => simp only [hin] at h; cases h
              | some p =>
                obtain ⟨vs, m⟩ := p
                simp only [hin] at h
                obtain ⟨hb, h⟩ := chk_some h
                obtain ⟨hb1, hb2⟩ := and2 hb
                have hb1 := beq_nat hb1
                have hb2 := beq_nat hb2
                rcases br_some h with ⟨hin', hK⟩ | ⟨_, hK⟩
                · obtain ⟨h0, h1⟩ := inR_spec hin'
                  have hlt : natI n < List.length m := by unfold natI; unfold ln at h1; omega
                  obtain ⟨i1, i2, a1, n1, e1, e2⟩ := il_spec hR.roots hq hb1.symm hin hil
                  obtain ⟨b', p', ea, _⟩ := row_elem e2 hlt
                  subst ea
                  refine Reads.mk' hK (fin n b' p' _ _ hix h0 h1 e1) ⟨_, hq, hle, fun he ow' ts' l' hk => ?_⟩
                  cases hk
                  obtain ⟨_, _, b, o, g1, g2, g3⟩ := g he true ts l rfl
                  rw [e1] at g3
                  exact ⟨i1, i2, vs, m, hin, hlt, b, o, b', p', _, _, g1, g2, g3, by rw [hb2]; rfl⟩
                · cases hK
          | _ => cases h
        | _ => cases h
      | _ => cases h
    | _ => cases h
/-! ### Tuples, function values, lengths -/
theorem avs_at {Rs : List Root} (cs : AV) (vs : List Value) (h : (avR G Rs w cs).2 vs) {n : Nat} {c : AV} (hn : cs.toList[n]? = some c) : ∃ x, vs[n]? = some x ∧ (avR G Rs w c).1 x := by
  obtain ⟨h1, h2⟩ := avs_get cs vs h
  have hlt : n < cs.toList.length := (List.getElem?_eq_some_iff.1 hn).1
  have := h2 n (by omega)
  rw [List.getD_eq_getElem?_getD, hn] at this
  exact ⟨vs[n]'(by omega), List.getElem?_eq_getElem (by omega), by simpa [List.getD_eq_getElem?_getD, show n < vs.length by omega] using this⟩
theorem op_extract {x : Operand} {n : Nat} (ho : o.op = .extract x n) (hR : Rel G σ a w) (h : evOp tab soft Γ call k o σ K = some r) : Reads P G σ w o a K r := by
  have hx := hR.eval x
  simp only [evOp, ho] at h
  generalize σ.eval x = av at h hx
  cases av with
  | tup cs =>
    obtain ⟨vs, e, hv⟩ := hx
    cases hc : cs.toList[n]? with
    | none => simp only [hc] at h; cases h
    | some c =>
      simp only [hc] at h
      obtain ⟨y, e1, e2⟩ := avs_at cs vs hv hc
      exact Reads.mk' h (fun w' _ => by simp [execOp, ho, Instr.extract, e, e1]) e2
  | _ => cases h
theorem evals_ofList (hR : Rel G σ a w) : ∀ (xs : List Operand), (avR G σ.roots w (.ofList (xs.map σ.eval))).2 (xs.map a.eval)
  | [] => rfl
  | x :: xs => ⟨_, _, rfl, hR.eval x, evals_ofList hR xs⟩
theorem op_makeFunc {f : Nat} {fs cs : Array Operand} (ho : o.op = .makeFunc (.func f) fs cs) (hR : Rel G σ a w) (h : evOp tab soft Γ call k o σ K = some r) : Reads P G σ w o a K r := by
  simp only [evOp, ho] at h
  split at h
  · rename_i hf
    have hf : fs = #[] := Array.ext' hf
    subst hf
    refine Reads.mk' h (x := .func (.func f) #[] (cs.map a.eval)) (fun w' _ => by simp [execOp, ho, Instr.makeFunc]) ⟨cs.toList.map a.eval, ?_, evals_ofList hR _⟩
    congr 1
    apply Array.ext'
    simp
  · cases h
/-- a slice's head, as it is read -/
theorem row_some {G : Gh} {w : World} {cv : Nat → (t : Ty) → t.den → Value → Prop} {L : Lab} {ts : Ty} {l : List ts.den} {a : Option Addr} {n : Nat} (h : rowG G w cv L ts l a n) (hn : l ≠ []) : a.isSome = true := by
  have h0 := List.length_pos_iff.2 hn
  rcases h with ⟨h1, h2 | ⟨b, o, e, _⟩⟩
  · omega
  · rw [e]; rfl
theorem ro_some {u : Nat → Nat → Option Value} {ts : Ty} {l : List ts.den} {a : Option Addr} (h : ∀ i, i < List.length l → ∃ b o, a = some ⟨b, o, none⟩ ∧ (ro u ts).2 (rd ts l i) b (o + i * ts.size)) (hn : l ≠ []) : a.isSome = true := by
  obtain ⟨b, o, e, _⟩ := h 0 (List.length_pos_iff.2 hn)
  rw [e]; rfl
theorem tk_ne {α : Type} {l : List α} {n : Nat} (h : tk l n ≠ []) : l ≠ [] := fun e => h (by simp [tk, e])
theorem dp_ne {α : Type} {l : List α} {n : Nat} (h : dp l n ≠ []) : l ≠ [] := fun e => h (by simp [dp, e])
theorem if_some {a : Option Addr} {c : Prop} [Decidable c] {f : Addr → Addr} (h : a.isSome = true) : (if c then a else a.map f).isSome = true := by split <;> simp [h]
theorem sliceOf_head {Rs : List Root} {tm : List AV} (hR : RelR G Rs w) {av : AV} {l : (ts : Ty) × List ts.den} {v : Value} (hs : sliceOf ⟨tm, Rs⟩ av = some l) (hv : (avR G Rs w av).1 v) : ∃ a c, v = .slice a (List.length l.2) c ∧ List.length l.2 ≤ c ∧ (l.2 ≠ [] → a.isSome = true) := by
  cases av with
  | val t x =>
    cases t with
    | slice us => cases hs; obtain ⟨a, c, e, h, g⟩ := hv; exact ⟨a, c, e, h, fun hn => (by have := List.length_pos_iff.2 hn; obtain ⟨b, o, e, _⟩ := g 0 this; rw [e]; rfl)⟩
    | _ => cases hs
  | nl us => cases hs; obtain ⟨a, e⟩ := hv; exact ⟨a, 0, e, Nat.le_refl _, fun h => absurd rfl h⟩
  | sl r a =>
    obtain ⟨q, hq, hle, g⟩ := hv
    simp only [sliceOf, hq] at hs
    obtain ⟨k, ver, anc⟩ := q
    have hro := hR r _ hq
    cases k with
    | row ow us m =>
      simp only at hs
      split at hs
      · rename_i hab
        cases hs
        exact ⟨_, _, g (beq_nat hab).symm us (List.length m) rfl, (show rowG G w (cvOf G w r ow) (.of r 0) us m _ _ from hro).1, row_some hro⟩
      · cases hs
    | fro us m =>
      simp only at hs
      split at hs
      · rename_i hab
        cases hs
        obtain ⟨a0, c0, e0, h0, hg⟩ := hro
        cases e0
        exact ⟨_, _, g (beq_nat hab).symm us (List.length m) rfl, h0, fun hn => ro_some hg hn⟩
      · cases hs
    | _ => cases hs
  | hd r a n =>
    obtain ⟨q, hq, hle, g⟩ := hv
    simp only [sliceOf, hq] at hs
    obtain ⟨k, ver, anc⟩ := q
    have hro := hR r _ hq
    cases k with
    | row ow us m =>
      simp only at hs
      split at hs
      · rename_i hab
        cases hs
        obtain ⟨h1, h2⟩ := g (beq_nat hab).symm us (List.length m) rfl
        have hc := (show rowG G w (cvOf G w r ow) (.of r 0) us m _ _ from hro).1
        have hl : List.length (tk m n) = n := by simp [tk]; omega
        exact ⟨_, _, by rw [hl]; exact h2, by rw [hl]; omega, fun hn => row_some hro (tk_ne hn)⟩
      · cases hs
    | fro us m =>
      simp only at hs
      split at hs
      · rename_i hab
        cases hs
        obtain ⟨h1, h2⟩ := g (beq_nat hab).symm us (List.length m) rfl
        obtain ⟨a0, c0, e0, h0, hg⟩ := hro
        cases e0
        have hl : List.length (tk m n) = n := by simp [tk]; omega
        exact ⟨_, _, by rw [hl]; exact h2, by rw [hl]; omega, fun hn => ro_some hg (tk_ne hn)⟩
      · cases hs
    | _ => cases hs
  | tl r a n =>
    obtain ⟨q, hq, hle, g⟩ := hv
    simp only [sliceOf, hq] at hs
    obtain ⟨k, ver, anc⟩ := q
    have hro := hR r _ hq
    cases k with
    | row ow us m =>
      simp only at hs
      split at hs
      · rename_i hab
        cases hs
        obtain ⟨h1, h2⟩ := g (beq_nat hab).symm us (List.length m) rfl
        have hc := (show rowG G w (cvOf G w r ow) (.of r 0) us m _ _ from hro).1
        have hl : List.length (dp m n) = List.length m - n := by simp [dp]
        exact ⟨_, _, by rw [hl]; exact h2, by rw [hl]; omega, fun hn => if_some (row_some hro (dp_ne hn))⟩
      · cases hs
    | fro us m =>
      simp only at hs
      split at hs
      · rename_i hab
        cases hs
        obtain ⟨h1, h2⟩ := g (beq_nat hab).symm us (List.length m) rfl
        obtain ⟨a0, c0, e0, h0, hg⟩ := hro
        cases e0
        have hl : List.length (dp m n) = List.length m - n := by simp [dp]
        exact ⟨_, _, by rw [hl]; exact h2, by rw [hl]; omega, fun hn => if_some (ro_some hg (dp_ne hn))⟩
      · cases hs
    | _ => cases hs
  | il r s i f =>
    have hil := hv
    obtain ⟨q, hq, hle, g⟩ := hv
    simp only [sliceOf, hq] at hs
    obtain ⟨k, ver, anc⟩ := q
    cases k with
    | row ow us m =>
      cases ow with
      | false => cases hs
      | true =>
        simp only at hs
        split at hs
        · rename_i hab
          obtain ⟨vs, n⟩ := l
          obtain ⟨_, _, a1, n1, e1, e2⟩ := il_spec hR hq (beq_nat hab).symm hs hil
          exact ⟨a1, n1, e1, e2.1, row_some e2⟩
        · cases hs
    | _ => cases hs
  | pd r s i f us m =>
    obtain ⟨q, hq, hle, g⟩ := hv
    simp only [sliceOf, hq] at hs
    obtain ⟨k, ver, anc⟩ := q
    cases k with
    | row ow vs n =>
      cases ow with
      | false => cases hs
      | true =>
        simp only at hs
        split at hs
        · rename_i hab
          cases hs
          obtain ⟨_, _, a1, n1, e1, e2⟩ := g (beq_nat hab).symm true vs n rfl
          exact ⟨a1, n1, e1, e2.1, row_some e2⟩
        · cases hs
    | _ => cases hs
  | _ => cases hs
/-- a slice, compared with nil -/
theorem op_nilEql {T T' : Nat} {x : Operand} (hT : TabOk P tab) (ho : o.op = .binOp .eql T x (.const (.slice none 0 0)) T') (hR : Rel G σ a w) (h : evOp tab soft Γ call k o σ K = some r) : Reads P G σ w o a K r := by
  simp only [evOp, ho] at h
  split at h
  · rename_i us l hus hl
    obtain ⟨a0, c, ev, _, hs⟩ := sliceOf_head (tm := σ.tmps) hR.roots hl (hR.eval x)
    obtain ⟨e, j, hu, _⟩ := elemTs_spec hT hus
    have h := nilB_some h
    have run : ∀ w', (execOp a.eval o).run P w' = .ok (.value (.bool a0.isNone)) w' := fun w' => by
      have := Go.Lib.run_eql_slice_nil (P := P) w' T e a0 (List.length l.2) c 0 0 hu
      have hn : a.eval (.const (.slice none 0 0)) = .slice none 0 0 := rfl
      simp [execOp, ho, ev, hn, eqGuard, this]
    cases a0 with
    | none =>
      have hn : l.2 = [] := Classical.byContradiction fun hn => by simpa using hs hn
      exact Reads.mk' (h.2 hn) (x := .bool true) (fun w' _ => run w') rfl
    | some b => exact Reads.mk' h.1 (x := .bool false) (fun w' _ => run w') rfl
  · cases h
theorem op_nilNeq {T T' : Nat} {x : Operand} (hT : TabOk P tab) (ho : o.op = .binOp .neq T x (.const (.slice none 0 0)) T') (hR : Rel G σ a w) (h : evOp tab soft Γ call k o σ K = some r) : Reads P G σ w o a K r := by
  simp only [evOp, ho] at h
  split at h
  · rename_i us l hus hl
    obtain ⟨a0, c, ev, _, hs⟩ := sliceOf_head (tm := σ.tmps) hR.roots hl (hR.eval x)
    obtain ⟨e, j, hu, _⟩ := elemTs_spec hT hus
    have h := nilB_some h
    have run : ∀ w', (execOp a.eval o).run P w' = .ok (.value (.bool (!a0.isNone))) w' := fun w' => by
      have := run_neq_slice_nil_any (P := P) w' T e a0 (List.length l.2) c 0 0 hu
      have hn : a.eval (.const (.slice none 0 0)) = .slice none 0 0 := rfl
      simp [execOp, ho, ev, hn, eqGuard, this]
    cases a0 with
    | none =>
      have hn : l.2 = [] := Classical.byContradiction fun hn => by simpa using hs hn
      exact Reads.mk' (h.2 hn) (x := .bool false) (fun w' _ => run w') rfl
    | some b => exact Reads.mk' h.1 (x := .bool true) (fun w' _ => run w') rfl
  · cases h
theorem op_len {x : Operand} {Ts : Array TypeId} (hT : TabOk P tab) (ho : o.op = .call ⟨.builtin .len, #[x], Ts⟩) (hR : Rel G σ a w) (h : evOp tab soft Γ call k o σ K = some r) : Reads P G σ w o a K r := by
  simp only [evOp, ho, List.map_cons, List.map_nil, evBuiltin] at h
  split at h
  · rename_i us l hus hl
    obtain ⟨a0, c, ev, _, _⟩ := sliceOf_head (tm := σ.tmps) hR.roots hl (hR.eval x)
    have : ∃ T e, Ts[0]? = some T ∧ P.underlying T = some (.slice e) := by
      simp only [argTs] at hus
      split at hus
      · rename_i T hTs
        obtain ⟨e, j, hu, _⟩ := elemTs_spec hT hus
        exact ⟨T, e, by rw [show Ts[0]? = Ts.toList[0]? by simp, hTs]; rfl, hu⟩
      · cases hus
    obtain ⟨T, e, hTs, hu⟩ := this
    refine Reads.mk' h (x := .int .i64 (ln l.2)) (fun w' _ => ?_) rfl
    have : (Builtin.len_ Ts o.type #[a.eval x]).run P w' = .ok (goInt (List.length l.2)) w' := by
      simp [Builtin.len_, hTs, run_underlying hu, ev]
    simp [execOp, ho, resolve, invoke, builtin, this, goInt, ln]
  · cases h
theorem op_max {us : Option (Bool × Ty)} {x y : Operand} {Ts : Array TypeId} (ho : o.op = .call ⟨.builtin .max, #[x, y], Ts⟩) (hR : Rel G σ a w) (h : evBuiltin .max us [σ.eval x, σ.eval y] σ K = some r) : Reads P G σ w o a K r := by
  have hx := hR.eval x
  have hy := hR.eval y
  generalize σ.eval x = ax at h hx
  generalize σ.eval y = ay at h hy
  cases ax with
  | val t m =>
    cases t with
    | int j =>
      cases ay with
      | val t' n =>
        cases t' with
        | int kk =>
          simp only [evBuiltin] at h
          split at h
          · rename_i hjk
            have hjk := of_decide_eq_true hjk
            subst hjk
            have hx : a.eval x = .int j m := hx
            have hy : a.eval y = .int j n := hy
            refine Reads.mk' h (x := .int j (maxI m n)) (fun w' _ => ?_) rfl
            simp [execOp, ho, resolve, invoke, builtin, Builtin.max_, Builtin.max2, hx, hy, maxI]
          · cases h
        | _ => cases h
      | _ => cases h
    | _ => cases h
  | _ => cases h
theorem op_min {us : Option (Bool × Ty)} {x y : Operand} {Ts : Array TypeId} (ho : o.op = .call ⟨.builtin .min, #[x, y], Ts⟩) (hR : Rel G σ a w) (h : evBuiltin .min us [σ.eval x, σ.eval y] σ K = some r) : Reads P G σ w o a K r := by
  have hx := hR.eval x
  have hy := hR.eval y
  generalize σ.eval x = ax at h hx
  generalize σ.eval y = ay at h hy
  cases ax with
  | val t m =>
    cases t with
    | int j =>
      cases ay with
      | val t' n =>
        cases t' with
        | int kk =>
          simp only [evBuiltin] at h
          split at h
          · rename_i hjk
            have hjk := of_decide_eq_true hjk
            subst hjk
            have hx : a.eval x = .int j m := hx
            have hy : a.eval y = .int j n := hy
            refine Reads.mk' h (x := .int j (minI m n)) (fun w' _ => ?_) rfl
            simp [execOp, ho, resolve, invoke, builtin, Builtin.min_, Builtin.min2, hx, hy, minI]
          · cases h
        | _ => cases h
      | _ => cases h
    | _ => cases h
  | _ => cases h
/-! ### Slices of slices -/
theorem ro_take {u : Nat → Nat → Option Value} {ts : Ty} {l : List ts.den} {n : Nat} (hn : n ≤ List.length l) {a0 : Option Addr} {c : Nat} (hc : n ≤ c)
    (h : ∀ i, i < List.length l → ∃ b o, a0 = some ⟨b, o, none⟩ ∧ (ro u ts).2 (rd ts l i) b (o + i * ts.size)) : (ro u (.slice ts)).1 (tk l n) (.slice a0 n c) := by
  have hl : List.length (tk l n) = n := by simp [tk]; omega
  refine ⟨a0, c, by rw [hl], by rw [hl]; exact hc, fun i hi => ?_⟩
  rw [hl] at hi
  have := h i (by omega)
  rwa [show rd ts (tk l n) i = rd ts l i by simp [rd, tk, List.getD_eq_getElem?_getD, hi]]
theorem run_sl_h {T e : Nat} {I : TypeInfo} (hu : P.underlying T = some (.slice e)) (hi : P.info? e = some I) {a0 : Option Addr} {len cap : Nat} {k : IntKind} {n : Int} (h0 : 0 ≤ n) (h1 : n ≤ cap) (w : World) :
    (Instr.sliceAt T (.slice a0 len cap) none (some (.int k n)) none).run P w = .ok (.slice (if cap = 0 then a0 else a0.map (·.add 0)) n.toNat cap) w := by
  simp [Instr.sliceAt, Instr.slice, run_underlying hu, Instr.sliceBounds, run_sliceBound, sizeOf, typeInfo, hi, *]
theorem run_sl_l {T e : Nat} {I : TypeInfo} (hu : P.underlying T = some (.slice e)) (hi : P.info? e = some I) {a0 : Option Addr} {len cap : Nat} {k : IntKind} {n : Int} (h0 : 0 ≤ n) (h1 : n ≤ len) (w : World) :
    (Instr.sliceAt T (.slice a0 len cap) (some (.int k n)) none none).run P w = .ok (.slice (if cap = n.toNat then a0 else a0.map (·.add (n.toNat * I.size))) (len - n.toNat) (cap - n.toNat)) w := by
  simp [Instr.sliceAt, Instr.slice, run_underlying hu, Instr.sliceBounds, run_sliceBound, sizeOf, typeInfo, hi, *]
/-- the front of a slice whose place is told where it has room -/
theorem front_addr {a0 : Option Addr} {cap : Nat} (h : cap = 0 ∨ ∃ b o, a0 = some ⟨b, o, none⟩) : (if cap = 0 then a0 else a0.map (·.add 0)) = a0 := by
  rcases h with h | ⟨b, o, h⟩
  · simp [h]
  · subst h; simp [add_at]
theorem rd_tk {ts : Ty} {l : List ts.den} {n i : Nat} (hi : i < n) : rd ts (tk l n) i = rd ts l i := by simp [rd, tk, List.getD_eq_getElem?_getD, hi]
theorem rd_dp {ts : Ty} {l : List ts.den} {n i : Nat} : rd ts (dp l n) i = rd ts l (n + i) := by simp [rd, dp, List.getD_eq_getElem?_getD, List.getElem?_drop]
theorem len_tk {α : Type} {l : List α} {n : Nat} (h : n ≤ l.length) : (tk l n).length = n := by simp [tk]; omega
theorem len_dp {α : Type} {l : List α} {n : Nat} : (dp l n).length = l.length - n := by simp [dp]
theorem rowG_take {cv : Nat → (t : Ty) → t.den → Value → Prop} {L : Lab} {ts : Ty} {l : List ts.den} {a0 : Option Addr} {n m : Nat} (h : rowG G w cv L ts l a0 n) (hm : m ≤ List.length l) : rowG G w cv L ts (tk l m) a0 n := by
  obtain ⟨h0, h⟩ := h
  refine ⟨by rw [len_tk hm]; omega, h.imp id ?_⟩
  rintro ⟨b, o, ea, h1, h2⟩
  refine ⟨b, o, ea, h1, fun i hi => ?_⟩
  rw [len_tk hm] at hi
  rw [rd_tk hi]; exact h2 i (by omega)
theorem op_sliceHi {T : Nat} {x y : Operand} (hT : TabOk P tab) (ho : o.op = .slice T x none (some y) none) (hR : Rel G σ a w) (h : evOp tab soft Γ call k o σ K = some r) : Reads P G σ w o a K r := by
  have hx := hR.eval x
  have hyv := hR.eval y
  simp only [evOp, ho, Option.map_none, Option.map_some] at h
  cases he : elemTs tab T with
  | none => rw [he] at h; cases h
  | some us =>
    rw [he] at h
    obtain ⟨e, j, hu, hj, hjc, _⟩ := elemTs_spec hT he
    obtain ⟨⟨I, i1, i2, i3⟩, _⟩ := hT e j hj
    generalize σ.eval y = ay at h hyv
    -- a front
    have front : ∀ (a0 : Option Addr) (len cap : Nat) (kk : IntKind) (n : Int) (v : AV), a.eval y = .int kk n → a.eval x = .slice a0 len cap → len ≤ cap → 0 ≤ n → n ≤ (len : Int) →
        (avR G σ.roots w v).1 (.slice (if cap = 0 then a0 else a0.map (·.add 0)) n.toNat cap) → K v σ = some r → Reads P G σ w o a K r := by
      intro a0 len cap kk n v hyv hxv hlc n0 n1 hv hK
      refine Reads.mk' hK (fun w' _ => ?_) hv
      have := run_sl_h hu i1 (a0 := a0) (len := len) (cap := cap) (k := kk) n0 (by omega) w'
      simp [execOp, ho, hxv, hyv, this]
    -- of what is read only
    have rof : ∀ (ts : Ty) (l : List ts.den) (v : Value) (kk : IntKind) (n : Int), (ro (vw G w) (.slice ts)).1 l v → a.eval x = v → a.eval y = .int kk n → br (upR n (ln l)) (K (.val (.slice ts) (tk l (natI n))) σ) none = some r → Reads P G σ w o a K r := by
      intro ts l v kk n hro hv hyv h
      obtain ⟨a0, c, ev, hc, g⟩ := hro
      rcases br_some h with ⟨hb, hK⟩ | ⟨_, hK⟩
      · obtain ⟨n0, n1⟩ := upR_spec hb
        unfold ln at n1
        refine front a0 _ c _ _ _ hyv (hv.trans ev) hc n0 n1 ?_ hK
        refine ro_take (n := natI n) (by simp [natI]; omega) (by simp [natI]; omega) (fun i hi => ?_)
        obtain ⟨b, p, ea, k'⟩ := g i hi
        exact ⟨b, p, by subst ea; simp [add_at], k'⟩
      · cases hK
    generalize hax : σ.eval x = ax at h hx
    cases ax with
    | val t l =>
      cases t with
      | slice ts =>
        obtain ⟨hsz, h⟩ := chk_some h
        cases ay with
        | val t n =>
          cases t with
          | int kk => exact rof ts l _ kk n hx rfl hyv h
          | _ => cases h
        | _ => cases h
      | _ => cases h
    | sl r' a' =>
      obtain ⟨q, hq, hle, g⟩ := hx
      simp only [hq] at h
      obtain ⟨k', ver, anc⟩ := q
      have hro := hR.roots r' _ hq
      cases k' with
      | row ow ts l =>
        obtain ⟨hb, h⟩ := chk_some h
        obtain ⟨hb1, hb2⟩ := and2 hb
        have hb1 := beq_nat hb1
        cases ay with
        | val t n =>
          cases t with
          | int kk =>
            have ev := g hb1.symm ts (List.length l) rfl
            obtain ⟨r1, r2⟩ := (show rowG G w (cvOf G w r' ow) (.of r' 0) ts l (G.anch r').1 (G.anch r').2 from hro)
            rcases br_some h with ⟨hup, hK⟩ | ⟨_, hK⟩
            · obtain ⟨n0, n1⟩ := upR_spec hup
              unfold ln at n1
              have e0 := front_addr (r2.imp id (fun ⟨b, o, e, _⟩ => ⟨b, o, e⟩))
              refine front _ _ _ _ _ (.hd r' a' (natI n)) hyv ev r1 n0 n1 ⟨_, hq, hle, fun _ ts' n' hh => ?_⟩ hK
              cases hh
              exact ⟨by simp [natI]; omega, by rw [e0]; rfl⟩
            · cases hK
          | _ => cases h
        | _ => cases h
      | fro ts l =>
        obtain ⟨hb, h⟩ := chk_some h
        obtain ⟨hb1, hb2⟩ := and2 hb
        have hb1 := beq_nat hb1
        cases ay with
        | val t n =>
          cases t with
          | int kk => exact rof ts l _ kk n hro (g hb1.symm ts (List.length l) rfl) hyv h
          | _ => cases h
        | _ => cases h
      | _ => cases h
    | il r' s' i f =>
      have hil := hx
      obtain ⟨q, hq, hle, g⟩ := hx
      simp only [hq] at h
      obtain ⟨k', ver, anc⟩ := q
      cases k' with
      | row ow ts l =>
        cases ow with
        | false => cases h
        | true =>
          cases hin : innerOf ts (rd ts l i) f with
          | none => simp only [hin] at h; cases h
          | some p =>
            obtain ⟨vs, m⟩ := p
            simp only [hin] at h
            obtain ⟨hb, h⟩ := chk_some h
            obtain ⟨hb1, hb2⟩ := and2 hb
            have hb1 := beq_nat hb1
            obtain ⟨j1, j2, a1, n1, e1, e2⟩ := il_spec hR.roots hq hb1.symm hin hil
            cases ay with
            | val t n =>
              cases t with
              | int kk =>
                rcases br_some h with ⟨hup, hK⟩ | ⟨_, hK⟩
                · obtain ⟨n0, nn⟩ := upR_spec hup
                  unfold ln at nn
                  have e0 := front_addr (e2.2.imp id (fun ⟨b, o, e, _⟩ => ⟨b, o, e⟩))
                  refine front a1 _ n1 _ _ (.pd r' s' i f vs (tk m (natI n))) hyv e1 e2.1 n0 nn ⟨_, hq, hle, fun he ow' ts' l' hk => ?_⟩ hK
                  cases hk
                  have hl : natI n ≤ List.length m := by unfold natI; omega
                  exact ⟨j1, j2, a1, n1, by rw [e0, len_tk hl]; rfl, rowG_take e2 hl⟩
                · cases hK
              | _ => cases h
            | _ => cases h
      | _ => cases h
    | _ => cases h
theorem op_sliceLo {T : Nat} {x y : Operand} (hT : TabOk P tab) (ho : o.op = .slice T x (some y) none none) (hR : Rel G σ a w) (h : evOp tab soft Γ call k o σ K = some r) : Reads P G σ w o a K r := by
  have hx := hR.eval x
  have hyv := hR.eval y
  simp only [evOp, ho, Option.map_none, Option.map_some] at h
  cases he : elemTs tab T with
  | none => rw [he] at h; cases h
  | some us =>
    rw [he] at h
    obtain ⟨e, j, hu, hj, hjc, _⟩ := elemTs_spec hT he
    obtain ⟨⟨I, i1, i2, i3⟩, _⟩ := hT e j hj
    rw [hjc] at i2
    generalize σ.eval y = ay at h hyv
    have ending : ∀ (a0 : Option Addr) (len cap : Nat) (kk : IntKind) (n : Int) (v : AV), a.eval y = .int kk n → a.eval x = .slice a0 len cap → 0 ≤ n → n ≤ (len : Int) →
        (avR G σ.roots w v).1 (.slice (if cap = n.toNat then a0 else a0.map (·.add (n.toNat * I.size))) (len - n.toNat) (cap - n.toNat)) → K v σ = some r → Reads P G σ w o a K r := by
      intro a0 len cap kk n v hyv hxv n0 n1 hv hK
      refine Reads.mk' hK (fun w' _ => ?_) hv
      have := run_sl_l hu i1 (a0 := a0) (len := len) (cap := cap) (k := kk) n0 n1 w'
      simp [execOp, ho, hxv, hyv, this]
    have rof : ∀ (ts : Ty) (l : List ts.den) (v : Value) (kk : IntKind) (n : Int), (ro (vw G w) (.slice ts)).1 l v → a.eval x = v → a.eval y = .int kk n → us.2.size = ts.size → br (upR n (ln l)) (K (.val (.slice ts) (dp l (natI n))) σ) none = some r → Reads P G σ w o a K r := by
      intro ts l v kk n hro hv hyv hsz h
      obtain ⟨a0, c, ev, hc, g⟩ := hro
      rcases br_some h with ⟨hb, hK⟩ | ⟨_, hK⟩
      · obtain ⟨n0, n1⟩ := upR_spec hb
        unfold ln at n1
        refine ending a0 _ c _ _ _ hyv (hv.trans ev) n0 n1 ?_ hK
        refine ⟨_, c - n.toNat, by rw [len_dp]; rfl, by rw [len_dp]; simp only [natI]; omega, fun i hi => ?_⟩
        rw [len_dp] at hi
        simp only [natI] at hi
        obtain ⟨b, p, ea, k'⟩ := g (n.toNat + i) (by omega)
        refine ⟨b, p + n.toNat * I.size, ?_, ?_⟩
        · rw [if_neg (by omega), ea]
          simp [add_at]
        · rw [rd_dp, i2, hsz, show p + n.toNat * ts.size + i * ts.size = p + (n.toNat + i) * ts.size by rw [Nat.add_mul]; omega]
          exact k'
      · cases hK
    generalize hax : σ.eval x = ax at h hx
    cases ax with
    | val t l =>
      cases t with
      | slice ts =>
        obtain ⟨hsz, h⟩ := chk_some h
        cases ay with
        | val t n =>
          cases t with
          | int kk => exact rof ts l _ kk n hx rfl hyv (beq_nat hsz) h
          | _ => cases h
        | _ => cases h
      | _ => cases h
    | sl r' a' =>
      obtain ⟨q, hq, hle, g⟩ := hx
      simp only [hq] at h
      obtain ⟨k', ver, anc⟩ := q
      have hro := hR.roots r' _ hq
      cases k' with
      | row ow ts l =>
        obtain ⟨hb, h⟩ := chk_some h
        obtain ⟨hb1, hb2⟩ := and2 hb
        have hb1 := beq_nat hb1
        have hb2 := beq_nat hb2
        cases ay with
        | val t n =>
          cases t with
          | int kk =>
            have ev := g hb1.symm ts (List.length l) rfl
            rcases br_some h with ⟨hup, hK⟩ | ⟨_, hK⟩
            · obtain ⟨n0, n1⟩ := upR_spec hup
              unfold ln at n1
              refine ending _ _ _ _ _ (.tl r' a' (natI n)) hyv ev n0 n1 ⟨_, hq, hle, fun _ ts' n' hh => ?_⟩ hK
              cases hh
              exact ⟨by simp [natI]; omega, by rw [i2, hb2]; rfl⟩
            · cases hK
          | _ => cases h
        | _ => cases h
      | fro ts l =>
        obtain ⟨hb, h⟩ := chk_some h
        obtain ⟨hb1, hb2⟩ := and2 hb
        have hb1 := beq_nat hb1
        cases ay with
        | val t n =>
          cases t with
          | int kk => exact rof ts l _ kk n hro (g hb1.symm ts (List.length l) rfl) hyv (beq_nat hb2) h
          | _ => cases h
        | _ => cases h
      | _ => cases h
    | il r' s' i f =>
      obtain ⟨q, hq, hle, g⟩ := hx
      simp only [hq] at h
      obtain ⟨k', ver, anc⟩ := q
      cases k' with
      | row ow ts l =>
        cases ow with
        | false => cases h
        | true =>
          cases hin : innerOf ts (rd ts l i) f with
          | none => simp only [hin] at h; cases h
          | some p =>
            simp only [hin] at h
            obtain ⟨_, h⟩ := chk_some h
            cases h
      | _ => cases h
    | _ => cases h
/-- x[:0:0] -/
theorem op_sliceZero {T : Nat} {x : Operand} {k1 k2 : IntKind} (hT : TabOk P tab) (ho : o.op = .slice T x none (some (.const (.int k1 0))) (some (.const (.int k2 0)))) (hR : Rel G σ a w) (h : evOp tab soft Γ call k o σ K = some r) : Reads P G σ w o a K r := by
  simp only [evOp, ho] at h
  split at h
  · rename_i us l he hs
    obtain ⟨e, j, hu, hj, hjc, _⟩ := elemTs_spec hT he
    obtain ⟨⟨I, i1, i2, i3⟩, _⟩ := hT e j hj
    obtain ⟨a0, c, ev, hc⟩ := sliceOf_head (tm := σ.tmps) hR.roots hs (hR.eval x)
    refine Reads.mk' h (x := .slice a0 0 0) (fun w' _ => ?_) ⟨a0, rfl⟩
    have : (Instr.sliceAt T (.slice a0 (List.length l.2) c) none (some (.int k1 0)) (some (.int k2 0))).run P w' = .ok (.slice a0 0 0) w' := by
      simp [Instr.sliceAt, Instr.slice, run_underlying hu, Instr.sliceBounds, run_sliceBound, sizeOf, typeInfo, i1]
    have hc : ∀ v, a.eval (.const v) = v := fun _ => rfl
    simp [execOp, ho, ev, hc, this]
  · cases h
/-! ### Structs made of their parts -/
theorem field_take {off n : Nat} {cs : AV} {vs : List Value} {Rs : List Root} (h : (avR G Rs w cs).2 vs) (hn : off + n ≤ lenAV cs) : (avR G Rs w (headAV n (dropAV off cs))).2 ((vs.drop off).take n) := by
  have hl := avs_len cs vs h
  exact avs_head n _ _ (avs_drop off cs vs h (by omega)) (by simp; omega)
theorem oneB_av {R' : List Root} {g : Bool} {n : Nat} {cs : AV} {vs : List Value} (hl : vs.length = n) (h1 : g = false → n = 1) (h : (avR G R' w cs).2 vs) : (avR G R' w (oneB g cs)).1 (if g then .agg vs.toArray else vs.getD 0 undef) := by
  unfold oneB
  cases g with
  | true => exact ⟨vs, rfl, h⟩
  | false =>
    have := h1 rfl
    cases cs with
    | cons v as => obtain ⟨x, xs, e, g, _⟩ := h; subst e; exact g
    | _ => exact trivial
theorem op_field {T f : Nat} {x : Operand} (hT : TabOk P tab) (ho : o.op = .field T x f) (hR : Rel G σ a w) (h : evOp tab soft Γ call k o σ K = some r) : Reads P G σ w o a K r := by
  have hx := hR.eval x
  simp only [evOp, ho] at h
  split at h
  · rename_i i hi
    split at h
    · rename_i off cs hoff hcs
      obtain ⟨hb, hK⟩ := chk_some h
      have hb2 := ble_nat hb
      rw [hcs] at hx
      obtain ⟨vs, ev, hv⟩ := hx
      obtain ⟨fs, hu, fl, e1, e2, ⟨I, e3, e4, e5⟩, h1, d, e6, e7⟩ := (hT T i hi).offs f off hoff
      have hl := avs_len cs vs hv
      refine Reads.mk' hK (x := if off.2.2 then .agg ((vs.drop off.1).take off.2.1).toArray else ((vs.drop off.1).take off.2.1).getD 0 undef) (fun w' _ => ?_) (oneB_av (by simp; omega) h1 (field_take hv hb2))
      have hagg : (isAgg fl.type).run P w' = .ok off.2.2 w' := by
        unfold isAgg
        rw [Sem.run_bind, run_underlying e6 w']
        cases d <;> simp_all [aggD]
      have hpart : (part fl.type vs.toArray fl.offset).run P w' = .ok (if off.2.2 then .agg ((vs.drop off.1).take off.2.1).toArray else ((vs.drop off.1).take off.2.1).getD 0 undef) w' := by
        cases hg : off.2.2 with
        | true =>
          rw [hg] at hagg
          simp [part, Sem.run_bind, hagg, sizeOf, typeInfo, e3, e4, List.take_drop]
          rw [e2]
        | false =>
          rw [hg] at hagg
          have hn := h1 hg
          have hlt : off.1 < vs.length := by omega
          have : ((vs.drop off.1).take off.2.1).getD 0 undef = vs[off.1] := by
            rw [hn, List.getD_eq_getElem?_getD, List.getElem?_take_of_lt (by omega), List.getElem?_drop]
            simp [hlt]
          rw [e2, this]
          simp [part, Sem.run_bind, hagg, hlt]
      simp [execOp, ho, Instr.field, run_underlying hu, e1, ev, asAgg, hpart]
    · cases h
  · cases h
/-! ### Literals -/
theorem foldl_set (off : Nat) : ∀ (vs : List Value) (k : Nat) (cs : Array Value),
    ((vs.zipIdx k).foldl (fun cs (x : Value × Nat) => cs.setIfInBounds (off + x.2) x.1) cs).size = cs.size ∧
    ∀ j : Nat, ((vs.zipIdx k).foldl (fun cs (x : Value × Nat) => cs.setIfInBounds (off + x.2) x.1) cs)[j]? = if off + k ≤ j ∧ j < off + k + vs.length ∧ j < cs.size then vs[j - off - k]? else cs[j]?
  | [], k, cs => ⟨rfl, fun j => by rw [if_neg (by simp; omega)]; rfl⟩
  | v :: vs, k, cs => by
    obtain ⟨h1, h2⟩ := foldl_set off vs (k + 1) (cs.setIfInBounds (off + k) v)
    refine ⟨by simpa using h1, fun j => ?_⟩
    simp only [List.zipIdx_cons, List.foldl_cons, List.length_cons]
    rw [h2 j]
    simp only [Array.size_setIfInBounds]
    by_cases e : j = off + k
    · subst e
      rw [if_neg (by omega)]
      by_cases hlt : off + k < cs.size
      · rw [if_pos (by omega)]
        simp [hlt, show off + k - off - k = 0 by omega]
      · rw [if_neg (by omega)]
        simp [hlt]
    · rw [Array.getElem?_setIfInBounds_ne (Ne.symm e)]
      by_cases hin : off + (k + 1) ≤ j ∧ j < off + (k + 1) + vs.length ∧ j < cs.size
      · rw [if_pos hin, if_pos (by omega), show j - off - k = (j - off - (k + 1)) + 1 by omega, List.getElem?_cons_succ]
      · rw [if_neg hin, if_neg (by omega)]
/-- one part of a literal -/
def over (cs : List Value) (off : Nat) (vs : List Value) : List Value := cs.take off ++ vs ++ cs.drop (off + vs.length)
theorem len_over {cs vs : List Value} {off : Nat} (h : off + vs.length ≤ cs.length) : (over cs off vs).length = cs.length := by simp [over]; omega
theorem get_over {cs vs : List Value} {off : Nat} (h : off + vs.length ≤ cs.length) (j : Nat) : (over cs off vs)[j]? = if off ≤ j ∧ j < off + vs.length then vs[j - off]? else cs[j]? := by
  have ht : (cs.take off).length = off := by simp; omega
  unfold over
  by_cases h1 : j < off
  · rw [List.append_assoc, List.getElem?_append_left (by omega), if_neg (by omega), List.getElem?_take_of_lt h1]
  · rw [List.append_assoc, List.getElem?_append_right (by omega), ht]
    by_cases h2 : j < off + vs.length
    · rw [List.getElem?_append_left (by omega), if_pos (by omega)]
    · rw [List.getElem?_append_right (by omega), List.getElem?_drop, if_neg (by omega)]
      congr 1; omega
theorem fill_over {cs vs : List Value} {off : Nat} (h : off + vs.length ≤ cs.length) : vs.toArray.zipIdx.foldl (fun cs (c, j) => cs.setIfInBounds (off + j) c) cs.toArray = (over cs off vs).toArray := by
  obtain ⟨h1, h2⟩ := foldl_set off vs 0 cs.toArray
  have e : vs.toArray.zipIdx.foldl (fun cs (c, j) => cs.setIfInBounds (off + j) c) cs.toArray = (vs.zipIdx 0).foldl (fun cs (x : Value × Nat) => cs.setIfInBounds (off + x.2) x.1) cs.toArray := by
    rw [← Array.foldl_toList]; simp
  rw [e]
  apply Array.ext_getElem?
  intro j
  rw [h2 j]
  simp only [List.size_toArray, List.getElem?_toArray, Nat.add_zero, Nat.sub_zero]
  rw [get_over h]
  by_cases hin : off ≤ j ∧ j < off + vs.length
  · rw [if_pos hin, if_pos ⟨hin.1, hin.2, by omega⟩]
  · rw [if_neg hin, if_neg (by omega)]
theorem avs_over {Rs : List Root} : ∀ (off : Nat) (a : AV) (cs : AV) (vs ws : List Value), (avR G Rs w a).2 vs → (avR G Rs w cs).2 ws → off + vs.length ≤ ws.length → (avR G Rs w (overAV off a cs)).2 (over ws off vs)
  | 0, .cons v a, .cons c cs, vs, ws, ⟨x, xs, e1, g1, h1⟩, ⟨y, ys, e2, g2, h2⟩, hl => by
    subst e1; subst e2
    have := avs_over 0 a cs xs ys h1 h2 (by simpa using hl)
    refine ⟨x, over ys 0 xs, ?_, g1, this⟩
    simp [over]
  | 0, .nil, cs, vs, ws, h1, h2, hl => by cases h1; cases cs <;> simpa [over, overAV] using h2
  | n + 1, a, .cons c cs, vs, ws, h1, ⟨y, ys, e2, g2, h2⟩, hl => by
    subst e2
    have := avs_over n a cs vs ys h1 h2 (by simp at hl; omega)
    refine ⟨y, over ys n vs, ?_, g2, by cases a <;> exact this⟩
    simp [over, show n + 1 + vs.length = n + vs.length + 1 by omega]
  | n + 1, a, .nil, vs, ws, h1, h2, hl => by cases h2; simp at hl
  | 0, .cons v a, .nil, vs, ws, ⟨x, xs, e1, g1, h1⟩, h2, hl => by cases h2; subst e1; simp at hl
  | _, .undef, _, _, _, h, _, _ => h.elim
  | _, .val _ _, _, _, _, h, _, _ => h.elim
  | _, .nl _, _, _, _, h, _, _ => h.elim
  | _, .agg _, _, _, _, h, _, _ => h.elim
  | _, .tup _, _, _, _, h, _, _ => h.elim
  | _, .rp _ _ _, _, _, _, h, _, _ => h.elim
  | _, .bp _ _, _, _, _, h, _, _ => h.elim
  | _, .ep _ _ _ _, _, _, _, h, _, _ => h.elim
  | _, .sl _ _, _, _, _, h, _, _ => h.elim
  | _, .hd _ _ _, _, _, _, h, _, _ => h.elim
  | _, .tl _ _ _, _, _, _, h, _, _ => h.elim
  | _, .il _ _ _ _, _, _, _, h, _, _ => h.elim
  | _, .ip _ _ _ _ _ _, _, _, _, h, _, _ => h.elim
  | _, .pd _ _ _ _ _ _, _, _, _, h, _, _ => h.elim
  | _, .fn _ _, _, _, _, h, _, _ => h.elim
  | _, _, .undef, _, _, _, h, _ => h.elim
  | _, _, .val _ _, _, _, _, h, _ => h.elim
  | _, _, .nl _, _, _, _, h, _ => h.elim
  | _, _, .agg _, _, _, _, h, _ => h.elim
  | _, _, .tup _, _, _, _, h, _ => h.elim
  | _, _, .rp _ _ _, _, _, _, h, _ => h.elim
  | _, _, .bp _ _, _, _, _, h, _ => h.elim
  | _, _, .ep _ _ _ _, _, _, _, h, _ => h.elim
  | _, _, .sl _ _, _, _, _, h, _ => h.elim
  | _, _, .hd _ _ _, _, _, _, h, _ => h.elim
  | _, _, .tl _ _ _, _, _, _, h, _ => h.elim
  | _, _, .il _ _ _ _, _, _, _, h, _ => h.elim
  | _, _, .ip _ _ _ _ _ _, _, _, _, h, _ => h.elim
  | _, _, .pd _ _ _ _ _ _, _, _, _, h, _ => h.elim
  | _, _, .fn _ _, _, _, _, h, _ => h.elim
theorem okCell_spec {Rs : List Root} {tm : List AV} {av : AV} {v : Value} (hR : RelR G Rs w) (h : okCell ⟨tm, Rs⟩ av = true) (hv : (avR G Rs w av).1 v) : v.oneCell' = true ∧ v.cells = #[v] := by
  cases av with
  | val t x =>
    cases t with
    | bool => cases hv; exact ⟨rfl, rfl⟩
    | int k => cases hv; exact ⟨rfl, rfl⟩
    | str => cases hv; exact ⟨rfl, rfl⟩
    | slice ts => obtain ⟨a, c, e, _⟩ := hv; subst e; exact ⟨rfl, rfl⟩
    | _ => cases h
  | nl ts => obtain ⟨a, e⟩ := hv; subst e; exact ⟨rfl, rfl⟩
  | sl r a =>
    obtain ⟨q, hq, hle, g⟩ := hv
    simp only [okCell, hq] at h
    obtain ⟨k, ver, anc⟩ := q
    cases k with
    | row ow ts l => have e := g (beq_nat h).symm ts (List.length l) rfl; subst e; exact ⟨rfl, rfl⟩
    | fro ts l => have e := g (beq_nat h).symm ts (List.length l) rfl; subst e; exact ⟨rfl, rfl⟩
    | _ => cases h
  | hd r a m =>
    obtain ⟨q, hq, hle, g⟩ := hv
    simp only [okCell, hq] at h
    obtain ⟨k, ver, anc⟩ := q
    cases k with
    | row ow ts l => obtain ⟨_, e⟩ := g (beq_nat h).symm ts (List.length l) rfl; subst e; exact ⟨rfl, rfl⟩
    | fro ts l => obtain ⟨_, e⟩ := g (beq_nat h).symm ts (List.length l) rfl; subst e; exact ⟨rfl, rfl⟩
    | _ => cases h
  | tl r a m =>
    obtain ⟨q, hq, hle, g⟩ := hv
    simp only [okCell, hq] at h
    obtain ⟨k, ver, anc⟩ := q
    cases k with
    | row ow ts l => obtain ⟨_, e⟩ := g (beq_nat h).symm ts (List.length l) rfl; subst e; exact ⟨rfl, rfl⟩
    | fro ts l => obtain ⟨_, e⟩ := g (beq_nat h).symm ts (List.length l) rfl; subst e; exact ⟨rfl, rfl⟩
    | _ => cases h
  | bp r f =>
    obtain ⟨q, hq, g⟩ := hv
    simp only [okCell, hq] at h
    obtain ⟨k, ver, anc⟩ := q
    cases k with
    | box cs ss => obtain ⟨b, p, _, e⟩ := g cs.length .nil rfl; subst e; exact ⟨rfl, rfl⟩
    | _ => cases h
  | il r s i f =>
    obtain ⟨q, hq, hle, g⟩ := hv
    simp only [okCell, hq] at h
    obtain ⟨k, ver, anc⟩ := q
    cases k with
    | row ow ts l =>
      cases ow with
      | false => cases h
      | true =>
        obtain ⟨h1, h2, b, o, h3, h4, h5⟩ := g (beq_nat h).symm true ts l rfl
        obtain ⟨b', o', ea, _, hel⟩ := row_elem (show rowG G w (deepV G w r) (.of r 0) ts l (G.anch r).1 (G.anch r).2 from hR r _ hq) h1
        rw [h3] at ea; cases ea
        have one : ∀ (ts : Ty) (x : ts.den) (o k f : Nat), elG (at_ w) (deepV G w r) ts x b o k → f < ts.size → ∃ u, at_ w b (o + f) = some u ∧ u.oneCell' = true ∧ u.cells = #[u] := by
          intro ts
          induction ts with
          | cons t ts _ ih =>
            intro x o k f ⟨⟨u, e1, e2⟩, e3⟩ hf
            cases f with
            | zero =>
              refine ⟨u, e1, ?_⟩
              cases t with
              | slice us => obtain ⟨a, n, e, _⟩ := e2; subst e; exact ⟨rfl, rfl⟩
              | bool => cases e2; exact ⟨rfl, rfl⟩
              | int k => cases e2; exact ⟨rfl, rfl⟩
              | str => cases e2; exact ⟨rfl, rfl⟩
              | nil => exact e2.elim
              | cons _ _ => exact e2.elim
            | succ f => rw [show o + (f + 1) = o + 1 + f by omega]; exact ih x.2 (o + 1) (k + 1) f e3 (by simpa [Ty.size] using hf)
          | _ => intro x o k f _ hf; simp [Ty.size] at hf
        obtain ⟨u, e1, e2⟩ := one ts _ _ _ f hel h2
        rw [h5] at e1; cases e1; exact e2
    | _ => cases h
  | pd r s i f us l =>
    obtain ⟨q, hq, hle, g⟩ := hv
    simp only [okCell, hq] at h
    obtain ⟨k, ver, anc⟩ := q
    cases k with
    | row ow ts m =>
      cases ow with
      | false => cases h
      | true => obtain ⟨_, _, a, n, e, _⟩ := g (beq_nat h).symm true ts m rfl; subst e; exact ⟨rfl, rfl⟩
    | _ => cases h
  | fn f cs => obtain ⟨vs, e, _⟩ := hv; subst e; exact ⟨rfl, rfl⟩
  | _ => cases h
theorem okCells_spec {Rs : List Root} {tm : List AV} (hR : RelR G Rs w) : ∀ (cs : AV) (vs : List Value), okCells ⟨tm, Rs⟩ cs = true → (avR G Rs w cs).2 vs → ∀ x ∈ vs, x.oneCell' = true := by
  intro cs
  induction cs with
  | nil => intro vs _ h; cases h; simp
  | cons c cs _ ih =>
    rintro _ h ⟨v, vs', rfl, h1, h2⟩
    simp only [okCells, Bool.and_eq_true] at h
    intro x hx
    rcases List.mem_cons.1 hx with rfl | hx
    · exact (okCell_spec hR h.1 h1).1
    · exact ih vs' h.2 h2 x hx
  | _ => intro vs h; cases h
/-- a value's cells, where there are some -/
theorem cellsOf_spec {Rs : List Root} {tm : List AV} {av : AV} {v : Value} (hR : RelR G Rs w) (hl : lenAV (cellsOf ⟨tm, Rs⟩ av) ≠ 0) (hv : (avR G Rs w av).1 v) :
    ∃ vs : List Value, v.cells = vs.toArray ∧ vs.length = lenAV (cellsOf ⟨tm, Rs⟩ av) ∧ (avR G Rs w (cellsOf ⟨tm, Rs⟩ av)).2 vs ∧ ∀ x ∈ vs, x.oneCell' = true := by
  have single : ∀ av, cellsOf ⟨tm, Rs⟩ av = (match okCell ⟨tm, Rs⟩ av with | true => .cons av .nil | false => .nil) → lenAV (cellsOf ⟨tm, Rs⟩ av) ≠ 0 → (avR G Rs w av).1 v →
      ∃ vs : List Value, v.cells = vs.toArray ∧ vs.length = lenAV (cellsOf ⟨tm, Rs⟩ av) ∧ (avR G Rs w (cellsOf ⟨tm, Rs⟩ av)).2 vs ∧ ∀ x ∈ vs, x.oneCell' = true := by
    intro av e hl hv
    rw [e] at hl ⊢
    cases hk : okCell ⟨tm, Rs⟩ av with
    | false => rw [hk] at hl; exact absurd rfl hl
    | true =>
      obtain ⟨h1, h2⟩ := okCell_spec hR hk hv
      exact ⟨[v], h2, rfl, ⟨v, [], rfl, hv, rfl⟩, by simpa using h1⟩
  cases av with
  | agg cs =>
    obtain ⟨vs, e, h⟩ := hv
    simp only [cellsOf] at hl ⊢
    cases hk : okCells ⟨tm, Rs⟩ cs with
    | false => rw [hk] at hl; exact absurd rfl hl
    | true => exact ⟨vs, by subst e; rfl, avs_len cs vs h, h, okCells_spec hR cs vs hk h⟩
  | undef => exact single _ rfl hl hv
  | val t x => exact single _ rfl hl hv
  | nl ts => exact single _ rfl hl hv
  | tup vs => exact single _ rfl hl hv
  | rp ts x f => exact single _ rfl hl hv
  | bp r f => exact single _ rfl hl hv
  | ep r a i f => exact single _ rfl hl hv
  | sl r a => exact single _ rfl hl hv
  | hd r a n => exact single _ rfl hl hv
  | tl r a lo => exact single _ rfl hl hv
  | il r s i f => exact single _ rfl hl hv
  | ip r s i f j g => exact single _ rfl hl hv
  | pd r s i f us l => exact single _ rfl hl hv
  | fn f cs => exact single _ rfl hl hv
  | nil => exact single _ rfl hl hv
  | cons c cs => exact single _ rfl hl hv
theorem zero_len : ∀ (ts : Ty), (zeroVals ts).length = ts.size := by
  intro ts
  induction ts with
  | cons t ts _ ih => cases t <;> simp [zeroVals, Ty.size, ih]
  | _ => rfl
theorem zero_avs {Rs : List Root} : ∀ (ts : Ty), ts.flat = true → (avR G Rs w (zeroAV ts)).2 (zeroVals ts) := by
  intro ts
  induction ts with
  | nil => intro _; rfl
  | cons t ts _ ih =>
    intro h
    cases t with
    | bool => exact ⟨_, _, rfl, rfl, ih h⟩
    | int k => exact ⟨_, _, rfl, rfl, ih h⟩
    | str => exact ⟨_, _, rfl, rfl, ih h⟩
    | slice us => exact ⟨_, _, rfl, ⟨none, rfl⟩, ih h⟩
    | _ => cases h
  | _ => intro h; cases h
theorem op_build {T : Nat} {ps : Array (Nat × Operand)} (hT : TabOk P tab) (ho : o.op = .build T ps) (hR : Rel G σ a w) (h : evOp tab soft Γ call k o σ K = some r) : Reads P G σ w o a K r := by
  simp only [evOp, ho] at h
  split at h
  · rename_i i hi
    split at h
    · rename_i cs hcs
      obtain ⟨hagg, h⟩ := chk_some h
      obtain ⟨fs, hu, hpl⟩ := (hT T i hi).places hagg
      obtain ⟨I, z, z1, z2, z3⟩ := (hT T i hi).zero
      have hfl := (hT T i hi).flat
      have key : ∀ (ps : List (Nat × Operand)) (c0 : AV) (ws : List Value) (cs : AV), partsAV σ i.offs ps c0 = some cs → (avR G σ.roots w c0).2 ws →
          ∃ ws', Instr.fill (fun j => (i.offs.map fun o => (o.1, o.2.1))[j]?) ws.toArray (ps.map fun (j, x) => (j, a.eval x)) = some ws'.toArray ∧ (avR G σ.roots w cs).2 ws' := by
        intro ps
        induction ps with
        | nil => intro c0 ws cs h hw; cases h; exact ⟨ws, rfl, hw⟩
        | cons p ps ih =>
          obtain ⟨j, x⟩ := p
          intro c0 ws cs h hw
          simp only [partsAV] at h
          split at h
          · rename_i off hoff
            obtain ⟨hb, h⟩ := chk_some h
            obtain ⟨hb1, hb2⟩ := and2 hb
            have hb1 := beq_nat hb1
            have hb2 := ble_nat hb2
            have hlw := avs_len c0 ws hw
            rcases Nat.eq_zero_or_pos off.2.1 with h0 | h0
            · exfalso
              obtain ⟨_, _, _, _, _, ⟨_, _, _, h5⟩, _⟩ := (hT T i hi).offs j off hoff
              omega
            · obtain ⟨vs, e1, e2, e3, _⟩ := cellsOf_spec (tm := σ.tmps) hR.roots (by rw [hb1]; omega) (hR.eval x)
              have hvl : vs.length = off.2.1 := e2.trans hb1
              obtain ⟨ws', f1, f2⟩ := ih _ _ _ h (avs_over off.1 _ _ vs ws e3 hw (by omega))
              refine ⟨ws', ?_, f2⟩
              have hplace : (i.offs.map fun o => (o.1, o.2.1))[j]? = some (off.1, off.2.1) := by simp [hoff]
              simp only [List.map_cons, Instr.fill, hplace]
              rw [if_neg (by simp [e1, hvl]; omega), e1, fill_over (by omega)]
              exact f1
          · cases h
      obtain ⟨ws', f1, f2⟩ := key ps.toList _ _ _ hcs (zero_avs i.cells hfl)
      refine Reads.mk' h (x := .agg ws'.toArray) (fun w' _ => ?_) ⟨ws', rfl, f2⟩
      have hb : P.built T (ps.map fun (j, x) => (j, a.eval x)).toList = some ws'.toArray := by
        unfold Program.built
        simp only [z1, hu, z2, hpl, z3]
        simpa using f1
      have := run_build (P := P) w' T _ _ hb
      simp [execOp, ho, this]
    · cases h
  · cases h
end
end
end Go.Proofs.YtpihkhknehadbaaGreat.Eng
