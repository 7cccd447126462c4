/- Arguments that read as data, as pure values; what a law's call comes to. No condition. -/
import Derived.Test.YtpihkhknehadbaaGreatEngTop
import Derived.Deep.Slices
import Derived.ChangeArms
import Derived.OpenShut
namespace Go.Proofs.YtpihkhknehadbaaGreat.Eng
open Go.RowKit Go.ChangeShapes Go.WideShapes
set_option linter.unusedVariables false
/-- a pure value within its bounds -/
def Wf : (t : Ty) → t.den → Prop
  | .bool => fun _ => True
  | .int k => fun n => (Lit.int k n).wf = true
  | .str => fun s => ByteArray.size s ≤ maxLen
  | .slice ts => fun (l : List ts.den) => l.length ≤ maxLen ∧ ∀ x ∈ l, Wf ts x
  | .nil => fun _ => True
  | .cons t ts => fun x => Wf t x.1 ∧ Wf ts x.2
def readC (u : Nat → Nat → Option Value) : (ts : Ty) → ts.den → List Value → Prop
  | .nil, _, vs => vs = []
  | .cons t ts, x, vs => ∃ v vs', vs = v :: vs' ∧ (ro u t).1 x.1 v ∧ readC u ts x.2 vs'
  | _, _, _ => False
theorem readC_row {u : Nat → Nat → Option Value} : ∀ {ts : Ty} {x : ts.den} {vs : List Value} {b o : Nat}, readC u ts x vs → (∀ i v, vs[i]? = some v → u b (o + i) = some v) → (ro u ts).2 x b o
  | .nil, _, _, _, _, _, _ => trivial
  | .cons t ts, x, vs, b, o, ⟨v, vs', e, h1, h2⟩, h => by
    subst e
    refine ⟨⟨v, h 0 v rfl, h1⟩, readC_row h2 (fun i v' hi => ?_)⟩
    have := h (i + 1) v' hi
    rwa [show o + (i + 1) = o + 1 + i by omega] at this
  | .bool, _, _, _, _, h, _ => h.elim
  | .int _, _, _, _, _, h, _ => h.elim
  | .str, _, _, _, _, h, _ => h.elim
  | .slice _, _, _, _, _, h, _ => h.elim
theorem readC_len {u : Nat → Nat → Option Value} : ∀ {ts : Ty} {x : ts.den} {vs : List Value}, readC u ts x vs → vs.length = ts.size
  | .nil, _, _, h => by rw [show _ = [] from h]; rfl
  | .cons t ts, x, vs, ⟨v, vs', e, h1, h2⟩ => by subst e; simp [Ty.size, readC_len h2]
  | .bool, _, _, h => h.elim
  | .int _, _, _, h => h.elim
  | .str, _, _, h => h.elim
  | .slice _, _, _, h => h.elim
structure OpE (P : Program) (T : Nat) (ts : Ty) : Prop where
  sz : P.cellsOf T = ts.size
  op : ∀ {H : Type} {enc : TypeId × Value → H} {w : World} {base : Nat} {spare : Nat → Bool} {held : Bool} {fuel : Nat} {cs : List Value} {x : DataW H × List MemPlace},
    DataW.trod enc P w base spare held fuel T cs = some x → ∃ v : ts.den, readC (at_ w) ts v cs ∧ Wf ts v
theorem opE_int {P : Program} {T : Nat} {k : IntKind} (hu : P.underlying T = some (.int k)) (hs : P.cellsOf T = 1) : OpE P T (.cons (.int k) .nil) where
  sz := hs
  op := by
    intro H enc w base spare held fuel cs x h
    obtain ⟨n, rfl, _, hw⟩ := DataW.trod_int hu h
    exact ⟨(n, ()), ⟨_, _, rfl, rfl, rfl⟩, hw, trivial⟩
theorem opE_bool {P : Program} {T : Nat} (hu : P.underlying T = some .bool) (hs : P.cellsOf T = 1) : OpE P T (.cons .bool .nil) where
  sz := hs
  op := by
    intro H enc w base spare held fuel cs x h
    obtain ⟨b, rfl, _⟩ := DataW.trod_bool hu h
    exact ⟨(b, ()), ⟨_, _, rfl, rfl, rfl⟩, trivial, trivial⟩
theorem opE_str {P : Program} {T : Nat} (hu : P.underlying T = some .string) (hs : P.cellsOf T = 1) : OpE P T (.cons .str .nil) where
  sz := hs
  op := by
    intro H enc w base spare held fuel cs x h
    obtain ⟨s, rfl, _, hm⟩ := DataW.trod_string hu h
    exact ⟨(s, ()), ⟨_, _, rfl, rfl, rfl⟩, hm, trivial⟩
theorem rows_opE {H : Type} {enc : TypeId × Value → H} {P : Program} {w : World} {base : Nat} {spare : Nat → Bool} {held : Bool} {e : TypeId} {us : Ty} (he : OpE P e us) (hpos : us.size ≠ 0) (a : Addr) {fuel : Nat} (D : Nat → DataW H) (Pl : Nat → List MemPlace) :
    ∀ n, (∀ i, i < n → ∃ cs', w.cells? base (a.add (i * P.cellsOf e)) (P.cellsOf e) = some cs' ∧ DataW.trod enc P w base spare held fuel e cs' = some (D i, Pl i)) →
      ∃ l : List us.den, l.length = n ∧ (∀ x, x ∈ l → Wf us x) ∧ ∀ i, i < n → ∃ b o, some a = some (⟨b, o, none⟩ : Addr) ∧ (ro (at_ w) us).2 (rd us l i) b (o + i * us.size) := by
  intro n
  induction n with
  | zero => intro _; exact ⟨[], rfl, fun x h => (by cases h), fun i hi => by omega⟩
  | succ n ih =>
    intro h
    obtain ⟨l, hl, hok, hr⟩ := ih (fun i hi => h i (by omega))
    obtain ⟨cs', hc, ht⟩ := h n (by omega)
    obtain ⟨v, hK, hO⟩ := he.op ht
    obtain ⟨_, hcl, hat⟩ := World.cells?_some hc
    have hsp : a.spot = none := by
      obtain ⟨cs0, hc0, ht0⟩ := h 0 (by omega)
      obtain ⟨_, hcl0, hat0⟩ := World.cells?_some hc0
      have h0 := hat0 0 (by rw [he.sz]; omega)
      have hlt : 0 < cs0.length := by rw [hcl0, he.sz]; omega
      rw [List.getElem?_eq_getElem hlt] at h0
      have : w.cell? a = some cs0[0] := by simpa [Addr.add] using h0
      unfold World.cell? at this
      split at this
      · cases hsp : a.spot with
        | none => rfl
        | some s => rw [hsp] at this; simp at this
      · cases this
    have ha : a = ⟨a.block, a.off, none⟩ := by cases a; simp_all
    refine ⟨l ++ [v], by simp [hl], fun x hx => ?_, fun i hi => ?_⟩
    · rcases List.mem_append.1 hx with hx | hx
      · exact hok x hx
      · rw [List.mem_singleton.1 hx]; exact hO
    · rcases Nat.lt_or_ge i l.length with hlt | hge
      · obtain ⟨b, o, e1, e2⟩ := hr i (by omega)
        refine ⟨b, o, e1, ?_⟩
        have : rd us (l ++ [v]) i = rd us l i := by
          unfold rd
          rw [List.getD_eq_getElem?_getD, List.getElem?_append_left hlt, List.getD_eq_getElem?_getD]
        rw [this]; exact e2
      · have hin : i = n := by omega
        subst hin
        refine ⟨a.block, a.off, by rw [← ha], ?_⟩
        have : rd us (l ++ [v]) i = v := by
          unfold rd
          rw [List.getD_eq_getElem?_getD, List.getElem?_append_right (by omega), hl]; simp
        rw [this]
        refine readC_row hK (fun j u hj => ?_)
        have hjl := (List.getElem?_eq_some_iff.1 hj).1
        have h1 := hat j (by omega)
        rw [hj, Go.Deep.add_add, he.sz] at h1
        have e : a.add (i * us.size + j) = ⟨a.block, a.off + i * us.size + j, none⟩ := by
          unfold Addr.add
          split
          · rename_i hz
            rw [show a.off + i * us.size + j = a.off by omega]; exact ha
          · rw [Nat.add_assoc]
        rw [e] at h1
        exact h1
theorem opE_slice {P : Program} {T e : Nat} {us : Ty} (hu : P.underlying T = some (.slice e)) (hs : P.cellsOf T = 1) (he : OpE P e us) (hpos : us.size ≠ 0) : OpE P T (.cons (.slice us) .nil) where
  sz := hs
  op := by
    intro H enc w base spare held fuel cs x h
    rcases Go.Deep.open_slice hu h with ⟨rfl, _⟩ | ⟨a, len, cap, m, n, D, Pl, rfl, _, hl, hm, hmm, _, hi⟩
    · exact ⟨(([] : List us.den), ()), ⟨_, _, rfl, ⟨none, 0, rfl, Nat.le_refl _, fun i hi => absurd hi (by simp)⟩, rfl⟩, ⟨Nat.zero_le _, fun x hx => (by cases hx)⟩, trivial⟩
    · have hle : len ≤ m := by rw [hmm]; split <;> omega
      obtain ⟨l, hll, hok, hr⟩ := rows_opE he hpos a D Pl len (fun i hi' => hi i (by omega))
      subst hll
      exact ⟨(l, ()), ⟨_, _, rfl, ⟨some a, cap, rfl, hl, fun i hi => hr i hi⟩, rfl⟩, ⟨Nat.le_trans hl hm, hok⟩, trivial⟩
def Ty.app : Ty → Ty → Ty
  | .cons t us, ts => .cons t (us.app ts)
  | _, ts => ts
def joinD : (us ts : Ty) → us.den → ts.den → (us.app ts).den
  | .cons t us, ts, x, y => (x.1, joinD us ts x.2 y)
  | .nil, _, _, y => y
  | .bool, _, _, y => y
  | .int _, _, _, y => y
  | .str, _, _, y => y
  | .slice _, _, _, y => y
theorem readC_join {u : Nat → Nat → Option Value} : ∀ {us ts : Ty} {x : us.den} {y : ts.den} {vs vs' : List Value}, readC u us x vs → readC u ts y vs' → readC u (us.app ts) (joinD us ts x y) (vs ++ vs')
  | .cons t us, ts, x, y, vs, vs', ⟨v, w, e, h1, h2⟩, h => by subst e; exact ⟨v, w ++ vs', rfl, h1, readC_join h2 h⟩
  | .nil, ts, x, y, vs, vs', h0, h => by rw [show vs = [] from h0]; exact h
  | .bool, _, _, _, _, _, h, _ => h.elim
  | .int _, _, _, _, _, _, h, _ => h.elim
  | .str, _, _, _, _, _, h, _ => h.elim
  | .slice _, _, _, _, _, _, h, _ => h.elim
theorem wf_join : ∀ {us ts : Ty} {x : us.den} {y : ts.den}, Wf us x → Wf ts y → Wf (us.app ts) (joinD us ts x y)
  | .cons t us, ts, x, y, ⟨h1, h2⟩, h => ⟨h1, wf_join h2 h⟩
  | .nil, _, _, _, _, h => h
  | .bool, _, _, _, _, h => h
  | .int _, _, _, _, _, h => h
  | .str, _, _, _, _, h => h
  | .slice _, _, _, _, _, h => h
theorem app_size : ∀ {us ts : Ty}, (us.app ts).size = us.size + ts.size
  | .cons t us, ts => by simp only [Ty.app, Ty.size, app_size (us := us)]; omega
  | .nil, _ => by simp [Ty.app, Ty.size]
  | .bool, _ => by simp [Ty.app, Ty.size]
  | .int _, _ => by simp [Ty.app, Ty.size]
  | .str, _ => by simp [Ty.app, Ty.size]
  | .slice _, _ => by simp [Ty.app, Ty.size]
/-- a struct's fields, from a place on -/
inductive FldsE (P : Program) : List Field → Nat → Ty → Prop where
  | nil {o : Nat} : FldsE P [] o .nil
  | cons {f : Field} {fs : List Field} {o : Nat} {us ts : Ty} : f.offset = o → OpE P f.type us → FldsE P fs (o + us.size) ts → FldsE P (f :: fs) o (us.app ts)
theorem FldsE.op {P : Program} {fs : List Field} {o : Nat} {ts : Ty} (h : FldsE P fs o ts) {H : Type} {enc : TypeId × Value → H} {w : World} {base : Nat} {spare : Nat → Bool} {held : Bool} {n : Nat} {cs : List Value}
    (hc : cs.length = o + ts.size) (hf : ∀ f ∈ fs, ∃ x, DataW.trod enc P w base spare held n f.type ((cs.drop f.offset).take (P.cellsOf f.type)) = some x) : ∃ v : ts.den, readC (at_ w) ts v (cs.drop o) ∧ Wf ts v := by
  induction h with
  | @nil o =>
    have : cs.length = o := hc
    exact ⟨(), by show cs.drop o = []; exact List.drop_eq_nil_of_le (by omega), trivial⟩
  | @cons f fs o us ts ho he hr ih =>
    obtain ⟨x, hx⟩ := hf f (List.mem_cons_self ..)
    rw [app_size] at hc
    obtain ⟨v', hK', hO'⟩ := ih (by omega) (fun g hg => hf g (List.mem_cons_of_mem _ hg))
    subst ho
    obtain ⟨v, hK, hO⟩ := he.op hx
    refine ⟨joinD us ts v v', ?_, wf_join hO hO'⟩
    have := readC_join hK hK'
    rwa [he.sz, ← List.drop_drop, List.take_append_drop] at this
theorem opE_struct {P : Program} {T : Nat} {fs : Array Field} {ts ts' : Ty} (hu : P.underlying T = some (.struct fs)) (hs : P.cellsOf T = ts.size) (hF : FldsE P fs.toList 0 ts') (he : ts' = ts) : OpE P T ts where
  sz := hs
  op := by
    subst he
    intro H enc w base spare held fuel cs x h
    obtain ⟨xs, n, _, _, hl, hxl, hf⟩ := DataW.trod_struct hu h
    exact hF.op (enc := enc) (w := w) (base := base) (spare := spare) (held := held) (n := n) (cs := cs) (by rw [hl, hs]; omega) (fun f' hf' => by
      obtain ⟨i, hi, rfl⟩ := List.getElem_of_mem hf'
      have h1 := hf i (fs.toList[i]) (by rw [← Array.getElem?_toList]; exact List.getElem?_eq_getElem hi)
      have hi2 : i < xs.length := by rw [hxl]; simpa using hi
      exact ⟨_, h1.trans (List.getElem?_eq_getElem hi2)⟩)
/-! ### A law's call -/
/-- nobody writes what was there -/
def G0 : Gh := ⟨fun _ _ => .free, fun _ => (none, 0)⟩
theorem out_below {W w' : World} {G' : Gh} (h : Out G0 W G' w') : Below W.heap.size W w' where
  os := h.os
  tape := h.tape
  output := h.output
  size := h.size
  block := fun k hk => blk_same (congrArg Prod.snd (h.free k 0 hk rfl).2.2) (fun o => (h.free k o hk rfl).2.1)
theorem one_struct {W : World} {ts : Ty} {x : ts.den} {s : Array Value} (hc : isCons ts = true) (h : readC (at_ W) ts x s.toList) (L : List (Nat × Nat)) : hOne G0 W ⟨false, 0⟩ ts x (.agg s) L := by
  unfold hOne
  simp only [hc]
  refine ⟨s.toList, by simp, ?_⟩
  have key : ∀ (ts : Ty) (x : ts.den) (vs : List Value) (L : List (Nat × Nat)), readC (at_ W) ts x vs → hCells G0 W 0 ts x vs L := by
    intro ts
    induction ts with
    | nil => intro x vs L h; exact h
    | cons t ts _ ih =>
      intro x vs L h
      obtain ⟨v, vs', e, h1, h2⟩ := h
      exact ⟨v, vs', e, h1, ih _ _ _ h2⟩
    | _ => intro x vs L h; exact h
  exact key ts x _ L h
theorem one_cell {W : World} {t : Ty} {x : (Ty.cons t .nil).den} {v : Value} (hc : isCons t = false) (h : readC (at_ W) (.cons t .nil) x [v]) (L : List (Nat × Nat)) : hOne G0 W ⟨false, 0⟩ t x.1 v L := by
  unfold hOne
  simp only [hc]
  obtain ⟨v', vs', e, h1, h2⟩ := h
  cases e
  exact h1
theorem lent0 : ∀ {pm : List Md}, (pm.all fun m => !isLent m) = true → ∀ vs : List Value, lentV pm vs = []
  | [], _, vs => by cases vs <;> rfl
  | m :: ms, h, [] => rfl
  | m :: ms, h, v :: vs => by
    simp only [List.all_cons, Bool.and_eq_true, Bool.not_eq_true'] at h
    simp only [lentV, h.1]
    exact lent0 h.2 vs
theorem law_end {P : Program} {f : Nat} {W : World} {vals : List Value} {params : Ty} {pm : List Md} {F : Nat → params.den → Option (Ty.cons .bool .nil).den} (hok : FnOk P f ⟨params, pm, .cons .bool .nil, [⟨false, 0⟩], 1, F⟩) (x : params.den) (hpm : ∀ vs : List Value, lentV pm vs = [])
    {k : Nat} (hp : F k x = some (true, ())) (hall : hAll G0 W params x pm vals (labs 0 (idsAll params pm))) : Calls P f vals.toArray W (fun e w' => e = .returned (.bool true) ∧ Below W.heap.size W w') := by
  refine (hok.2 k x (true, ()) hp G0 W vals hall).mono (fun e w' he => ?_)
  cases e with
  | returned out =>
    obtain ⟨outs, G', e1, e2, h3, h4⟩ := he
    rw [hpm, List.append_nil] at h3
    cases outs with
    | nil => cases e2
    | cons o outs =>
      cases outs with
      | cons _ _ => simp at e2
      | nil =>
        refine ⟨?_, out_below h4⟩
        have h5 : o = .bool true := h3.1
        rw [e1, h5]; rfl
  | _ => exact he.elim
end Go.Proofs.YtpihkhknehadbaaGreat.Eng
