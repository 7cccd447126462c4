/- How an argument that reads as data is read as a Lean value, kind by kind (whole numbers, bools, strings, slices, structs, to any depth). No condition. -/
import Derived.Test.YtnldmnlfocigaaaWLastInvWords
import Derived.Deep.Slices
import Derived.ChangeArms
import Derived.OpenShut
set_option linter.unusedVariables false
set_option linter.unusedSimpArgs false
namespace Go.Proofs.Ytnldmnlfocigaaa.Opn
open Go.RowKit Go.ChangeShapes Go.WideShapes Go.Proofs.YtnldmnlfocigaaaW.PrintWords

structure Opens {α : Type} (P : Program) (t : TypeId) (d : Kd α) (Ok : α → Prop) : Prop where
  sz : P.cellsOf t = d.sz
  op : ∀ {H : Type} {enc : TypeId × Value → H} {w : World} {base : Nat} {spare : Nat → Bool} {held : Bool} {fuel : Nat} {cs : List Value} {x : DataW H × List MemPlace},
    DataW.trod enc P w base spare held fuel t cs = some x → ∃ v, d.K w v cs ∧ Ok v

theorem Opens.int {P : Program} {t : TypeId} (k : IntKind) (hu : P.underlying t = some (.int k)) (hs : P.cellsOf t = 1) : Opens P t (Kd.int k) (fun n => (Lit.int k n).wf = true) where
  sz := hs
  op := by
    intro H enc w base spare held fuel cs x h
    obtain ⟨n, rfl, _, hw⟩ := DataW.trod_int hu h
    exact ⟨n, rfl, hw⟩
theorem Opens.bool {P : Program} {t : TypeId} (hu : P.underlying t = some .bool) (hs : P.cellsOf t = 1) : Opens P t Kd.bool (fun _ => True) where
  sz := hs
  op := by
    intro H enc w base spare held fuel cs x h
    obtain ⟨b, rfl, _⟩ := DataW.trod_bool hu h
    exact ⟨b, rfl, trivial⟩
theorem Opens.string {P : Program} {t : TypeId} (hu : P.underlying t = some .string) (hs : P.cellsOf t = 1) : Opens P t Kd.string (fun s => s.size ≤ maxLen) where
  sz := hs
  op := by
    intro H enc w base spare held fuel cs x h
    obtain ⟨s, rfl, _, hm⟩ := DataW.trod_string hu h
    exact ⟨s, rfl, hm⟩

theorem rows_open {α H : Type} {enc : TypeId × Value → H} {P : Program} {w : World} {base : Nat} {spare : Nat → Bool} {held : Bool} {e : TypeId} {d : Kd α} {Ok : α → Prop} (he : Opens P e d Ok) (a : Addr) {fuel : Nat} (D : Nat → DataW H) (Pl : Nat → List MemPlace) :
    ∀ n, (∀ i, i < n → ∃ cs', w.cells? base (a.add (i * P.cellsOf e)) (P.cellsOf e) = some cs' ∧ DataW.trod enc P w base spare held fuel e cs' = some (D i, Pl i)) →
      ∃ l : List α, l.length = n ∧ (∀ x ∈ l, Ok x) ∧ ∀ j p, l[j]? = some p → ∃ c, c.length = d.sz ∧ d.K w p c ∧ ∀ i u, c[i]? = some u → w.cell? (a.add (j * d.sz + i)) = some u := by
  intro n
  induction n with
  | zero => intro _; exact ⟨[], rfl, by simp, fun j p h => by simp at h⟩
  | succ n ih =>
    intro h
    obtain ⟨l, hl, hok, hr⟩ := ih (fun i hi => h i (by omega))
    obtain ⟨cs', hc, ht⟩ := h n (by omega)
    obtain ⟨v, hK, hO⟩ := he.op ht
    obtain ⟨_, hcl, hat⟩ := World.cells?_some hc
    refine ⟨l ++ [v], by simp [hl], ?_, ?_⟩
    · intro x hx
      rcases List.mem_append.1 hx with hx | hx
      · exact hok x hx
      · rw [List.mem_singleton.1 hx]; exact hO
    · intro j p hj
      rcases Nat.lt_or_ge j l.length with hlt | hge
      · rw [List.getElem?_append_left hlt] at hj
        exact hr j p hj
      · have hjn : j = n := by
          have := (List.getElem?_eq_some_iff.1 hj).1
          simp at this
          omega
        subst hjn
        rw [List.getElem?_append_right (by omega), hl] at hj
        have hp : v = p := by simpa using hj
        subst hp
        refine ⟨cs', hcl.trans he.sz, hK, fun i u hu => ?_⟩
        have hi : i < P.cellsOf e := by
          have := (List.getElem?_eq_some_iff.1 hu).1
          omega
        rw [← he.sz, ← Go.Deep.add_add, hat i hi, hu]

theorem Opens.slice {α : Type} {P : Program} {t e : TypeId} {d : Kd α} {Ok : α → Prop} (hu : P.underlying t = some (.slice e)) (hs : P.cellsOf t = 1) (he : Opens P e d Ok) :
    Opens P t (Kd.slice e d) (fun l => l.length ≤ maxLen ∧ ∀ x ∈ l, Ok x) where
  sz := hs
  op := by
    intro H enc w base spare held fuel cs x h
    rcases Go.Deep.open_slice hu h with ⟨rfl, _⟩ | ⟨a, len, cap, m, n, D, Pl, rfl, _, hl, hm, hmm, _, hi⟩
    · exact ⟨[], ⟨none, 0, rfl, Nat.le_refl _, rfl, by simp, fun h => absurd h (by simp)⟩, by simp, by simp⟩
    · have hle : len ≤ m := by rw [hmm]; split <;> omega
      obtain ⟨l, hll, hok, hr⟩ := rows_open he a D Pl len (fun i hi' => hi i (by omega))
      subst hll
      refine ⟨l, ⟨some a, cap, rfl, hl, rfl, ?_, fun _ => ⟨a, rfl, hr⟩⟩, by omega, hok⟩
      unfold maxLen at hm
      omega

/-- The fields of a struct, from a place on. -/
inductive Flds (P : Program) : List Field → Nat → {α : Type} → Kd α → (α → Prop) → Prop where
  | one {f : Field} {o : Nat} {α : Type} {d : Kd α} {Ok : α → Prop} : f.offset = o → Opens P f.type d Ok → Flds P [f] o d Ok
  | cons {f : Field} {fs : List Field} {o : Nat} {α β : Type} {d : Kd α} {Ok : α → Prop} {d' : Kd β} {Ok' : β → Prop} : f.offset = o → Opens P f.type d Ok → Flds P fs (o + d.sz) d' Ok' →
      Flds P (f :: fs) o (Kd.pair d d') (fun x => Ok x.1 ∧ Ok' x.2)

theorem Flds.op {P : Program} {fs : List Field} {o : Nat} {α : Type} {d : Kd α} {Ok : α → Prop} (h : Flds P fs o d Ok) {H : Type} {enc : TypeId × Value → H} {w : World} {base : Nat} {spare : Nat → Bool} {held : Bool} {n : Nat} {cs : List Value}
    (hc : cs.length = o + d.sz) (hf : ∀ f ∈ fs, ∃ x, DataW.trod enc P w base spare held n f.type ((cs.drop f.offset).take (P.cellsOf f.type)) = some x) : ∃ v, d.K w v (cs.drop o) ∧ Ok v := by
  induction h with
  | one ho he =>
    obtain ⟨x, hx⟩ := hf _ (List.mem_singleton.2 rfl)
    subst ho
    rw [he.sz, List.take_of_length_le (by rw [List.length_drop]; omega)] at hx
    exact he.op hx
  | @cons f fs o α β d Ok d' Ok' ho he hr ih =>
    obtain ⟨x, hx⟩ := hf f (List.mem_cons_self ..)
    have hsz : (Kd.pair d d').sz = d.sz + d'.sz := rfl
    rw [hsz] at hc
    obtain ⟨v', hK', hO'⟩ := ih (by omega) (fun g hg => hf g (List.mem_cons_of_mem _ hg))
    subst ho
    rw [he.sz] at hx
    obtain ⟨v, hK, hO⟩ := he.op hx
    refine ⟨(v, v'), ⟨_, _, ?_, hK, hK'⟩, hO, hO'⟩
    rw [← List.drop_drop, List.take_append_drop]

theorem Opens.struct {α β : Type} {P : Program} {t : TypeId} {fs : Array Field} {d : Kd α} {Ok : α → Prop} (hu : P.underlying t = some (.struct fs)) (hs : P.cellsOf t = d.sz) (hF : Flds P fs.toList 0 d Ok) (f : β → α) (g : α → β) (hfg : ∀ y, f (g y) = y) :
    Opens P t (Kd.iso d f) (fun v => Ok (f v)) where
  sz := hs
  op := by
    intro H enc w base spare held fuel cs x h
    obtain ⟨xs, n, _, _, hl, hxl, hf⟩ := DataW.trod_struct hu h
    obtain ⟨v, hK, hO⟩ := hF.op (enc := enc) (w := w) (base := base) (spare := spare) (held := held) (n := n) (cs := cs) (by rw [hl, hs]; omega) (fun f' hf' => by
      obtain ⟨i, hi, rfl⟩ := List.getElem_of_mem hf'
      have h1 := hf i (fs.toList[i]) (by rw [← Array.getElem?_toList]; exact List.getElem?_eq_getElem hi)
      have hi2 : i < xs.length := by rw [hxl]; simpa using hi
      exact ⟨_, h1.trans (List.getElem?_eq_getElem hi2)⟩)
    refine ⟨g v, ?_, ?_⟩
    · show d.K w (f (g v)) cs
      rw [hfg]
      exact hK
    · rw [hfg]
      exact hO
end Go.Proofs.Ytnldmnlfocigaaa.Opn
