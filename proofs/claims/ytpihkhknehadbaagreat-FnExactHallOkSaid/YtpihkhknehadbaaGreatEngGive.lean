/- What was lent comes back, all of it. No condition. -/
import Derived.Test.YtpihkhknehadbaaGreatEngBack
namespace Go.Proofs.YtpihkhknehadbaaGreat.Eng
open Go.RowKit
set_option linter.unusedVariables false
section
/-- how the labels of one lent argument are turned back -/
def BackOne (G1 : Gh) (w : World) (Gl G' : Gh) (w' : World) (R1 : List Root) (tm : List AV) (m : Md) (t : Ty) (v : AV) (j n : Nat) : Prop := match m.ptr with
  | true => (∀ r f, v = .bp r f → Lk Gl w' G' w' (.of j 0) (.of r 0)) ∧ ∀ i, i < idsCells m.sm t → Ren false Gl w' G' (j + 1 + i, 0) (n + i, 0)
  | false => BackLabs G1 w Gl G' w' R1 j (srcOne ⟨tm, R1⟩ m t v)
def newIds (m : Md) (t : Ty) : Nat := match m.ptr with | true => idsCells m.sm t | false => 0
def BackAll (G1 : Gh) (w : World) (Gl G' : Gh) (w' : World) (R1 : List Root) (tm : List AV) : List (Md × Ty × AV) → Nat → Nat → Prop
  | [], _, _ => True
  | (m, t, v) :: vs, j, n => match isLent m with
    | false => BackAll G1 w Gl G' w' R1 tm vs j n
    | true => BackOne G1 w Gl G' w' R1 tm m t v j n ∧ BackAll G1 w Gl G' w' R1 tm vs (j + idsOne m t) (n + newIds m t)
/-- a cell's put that is good -/
def CellOk (G1 G' : Gh) (R : List Root) (w' : World) (ps : List Put) : Prop :=
  ∀ r f v, Put.cell r f v ∈ ps → ∃ b o val, (G1.anch r).1 = some ⟨b, o, none⟩ ∧ G'.own b (o + f) = .of r 0 ∧ w'.frozen? ⟨b, o + f, none⟩ = false ∧ at_ w' b (o + f) = some val ∧ (avR G' R w' v).1 val
def RootPuts (G1 : Gh) (w : World) (G' : Gh) (Rf : List Root) (w' : World) (R1 : List Root) (ps : List Put) : Prop :=
  ∀ p ∈ ps, (∃ r f v, p = .cell r f v) ∨ ∃ ids, PutOk G1 w G' Rf w' R1 ids p
/-- each source is put -/
def Put1 (ps : List Put) : Sr → Prop
  | .nul => True
  | .row r => ∃ q, Put.root r q ∈ ps
  | .inn r _ _ => ∃ q, Put.root r q ∈ ps
  | .box r f n => ∀ i, i < n → ∃ v, Put.cell r (f + i) v ∈ ps
theorem Put1.left {ps ps' : List Put} {s : Sr} (h : Put1 ps s) : Put1 (ps ++ ps') s := by
  cases s with
  | nul => trivial
  | row r => obtain ⟨q, h⟩ := h; exact ⟨q, List.mem_append_left _ h⟩
  | inn r i f => obtain ⟨q, h⟩ := h; exact ⟨q, List.mem_append_left _ h⟩
  | box r f n => intro i hi; obtain ⟨v, h⟩ := h i hi; exact ⟨v, List.mem_append_left _ h⟩
theorem Put1.right {ps ps' : List Put} {s : Sr} (h : Put1 ps' s) : Put1 (ps ++ ps') s := by
  cases s with
  | nul => trivial
  | row r => obtain ⟨q, h⟩ := h; exact ⟨q, List.mem_append_right _ h⟩
  | inn r i f => obtain ⟨q, h⟩ := h; exact ⟨q, List.mem_append_right _ h⟩
  | box r f n => intro i hi; obtain ⟨v, h⟩ := h i hi; exact ⟨v, List.mem_append_right _ h⟩
/-! ### One cell, a row of cells -/
theorem cell_put {tm : List AV} {R1 : List Root} {sm : Nat} {t : Ty} {y : t.den} {v : AV} {ps : List Put} (h : backCell ⟨tm, R1⟩ sm t y v = some ps) :
    (∀ s ∈ srcCell sm t v, Put1 ps s) ∧ ∀ p ∈ ps, p.at ∈ srcIds (srcCell sm t v) := by
  unfold backCell at h
  cases ho : isOwn sm t with
  | false => rw [ho] at h; cases h; refine ⟨fun s hs => ?_, fun p hp => (by cases hp)⟩; simp [srcCell, ho] at hs
  | true =>
    rw [ho] at h
    obtain ⟨us, e⟩ := own_slice ho
    subst e
    cases v with
    | nl ts =>
      cases h
      refine ⟨fun s hs => ?_, fun p hp => (by cases hp)⟩
      simp [srcCell, ho] at hs; subst hs; trivial
    | sl r a =>
      simp only at h
      split at h
      · split at h
        · cases h
          refine ⟨fun s hs => ?_, fun p hp => ?_⟩
          · simp [srcCell, ho] at hs; subst hs; exact ⟨_, List.mem_singleton.2 rfl⟩
          · rw [List.mem_singleton.1 hp]; simp [srcCell, ho, srcIds, Sr.id, Put.at]
        · cases h
      · cases h
    | il r s i f =>
      simp only at h
      split at h
      · split at h
        · cases h
          refine ⟨fun s hs => ?_, fun p hp => ?_⟩
          · simp [srcCell, ho] at hs; subst hs; exact ⟨_, List.mem_singleton.2 rfl⟩
          · rw [List.mem_singleton.1 hp]; simp [srcCell, ho, srcIds, Sr.id, Put.at]
        · cases h
      · cases h
    | _ => cases h
theorem cells_put {tm : List AV} {R1 : List Root} {sm : Nat} : ∀ {ts : Ty} {y : ts.den} {a : AV} {ps : List Put}, backCells ⟨tm, R1⟩ sm ts y a = some ps →
    (∀ s ∈ srcCells sm ts a, Put1 ps s) ∧ ∀ p ∈ ps, p.at ∈ srcIds (srcCells sm ts a) := by
  intro ts
  induction ts with
  | nil =>
    intro y a ps h
    cases a with
    | nil => cases h; exact ⟨fun s hs => (by cases hs), fun p hp => (by cases hp)⟩
    | _ => cases h
  | cons t ts _ ih =>
    intro y a ps h
    cases a with
    | cons v a =>
      simp only [backCells] at h
      split at h
      · rename_i p1 p2 h1 h2
        cases h
        obtain ⟨a1, a2⟩ := cell_put h1
        obtain ⟨b1, b2⟩ := ih h2
        refine ⟨fun s hs => ?_, fun p hp => ?_⟩
        · rcases List.mem_append.1 hs with hs | hs
          · exact (a1 s hs).left
          · exact (b1 s hs).right
        · simp only [srcCells, srcIds_append]
          rcases List.mem_append.1 hp with hp | hp
          · exact List.mem_append_left _ (a2 p hp)
          · exact List.mem_append_right _ (b2 p hp)
      · cases h
    | _ => cases h
  | _ => intro y a ps h; cases a <;> cases h
theorem noCell {G1 G' : Gh} {w w' : World} {R R1 Rf : List Root} {ids : List Nat} {ps : List Put} (h : ∀ p ∈ ps, PutOk G1 w G' Rf w' R1 ids p) (G2 : Gh) (R2 : List Root) : CellOk G1 G2 R2 w' ps := by
  intro r f v hm
  obtain ⟨_, _, _, e, _⟩ := h _ hm
  cases e
theorem cellPuts_mem {r : Nat} : ∀ {a : AV} {f : Nat} {p : Put}, p ∈ cellPuts r f a → ∃ i, i < a.toList.length ∧ p = .cell r (f + i) (a.toList.getD i .undef) := by
  intro a
  induction a with
  | cons v a _ ih =>
    intro f p hp
    simp only [cellPuts, List.mem_cons] at hp
    rcases hp with e | hp
    · exact ⟨0, by simp [AV.toList], by simpa [AV.toList] using e⟩
    · obtain ⟨i, hi, e⟩ := ih hp
      refine ⟨i + 1, by simpa [AV.toList] using hi, ?_⟩
      rw [e, show f + 1 + i = f + (i + 1) by omega]
      simp [AV.toList]
  | _ => intro f p hp; cases hp
theorem mem_cellPuts {r : Nat} : ∀ {a : AV} {f i : Nat}, i < a.toList.length → ∃ v, Put.cell r (f + i) v ∈ cellPuts r f a := by
  intro a
  induction a with
  | cons v a _ ih =>
    intro f i hi
    cases i with
    | zero => exact ⟨v, by simp [cellPuts]⟩
    | succ i =>
      obtain ⟨v', h⟩ := ih (f := f + 1) (i := i) (by simpa [AV.toList] using hi)
      exact ⟨v', by simp only [cellPuts, List.mem_cons]; right; rwa [show f + (i + 1) = f + 1 + i by omega]⟩
  | _ => intro f i hi; simp [AV.toList] at hi
theorem killPuts_mem {tm : List AV} {R1 : List Root} : ∀ {rs : List Nat} {p : Put}, p ∈ killPuts ⟨tm, R1⟩ rs → ∃ r q, p = .root r q ∧ r ∈ rs
  | [], p, hp => by cases hp
  | r :: rs, p, hp => by
    simp only [killPuts] at hp
    split at hp
    · rcases List.mem_cons.1 hp with e | hp
      · exact ⟨_, _, e, by simp⟩
      · obtain ⟨r', q', e, h⟩ := killPuts_mem hp; exact ⟨r', q', e, List.mem_cons_of_mem _ h⟩
    · obtain ⟨r', q', e, h⟩ := killPuts_mem hp; exact ⟨r', q', e, List.mem_cons_of_mem _ h⟩
theorem mem_killPuts {tm : List AV} {R1 : List Root} : ∀ {rs : List Nat} {r : Nat} {q : Root}, r ∈ rs → R1[r]? = some q → ∃ q', Put.root r q' ∈ killPuts ⟨tm, R1⟩ rs
  | r' :: rs, r, q, h, hq => by
    rcases List.mem_cons.1 h with e | h
    · subst e; simp only [killPuts, hq]; exact ⟨_, List.mem_cons_self⟩
    · obtain ⟨q', h'⟩ := mem_killPuts (tm := tm) h hq
      simp only [killPuts]
      split
      · exact ⟨q', List.mem_cons_of_mem _ h'⟩
      · exact ⟨q', h'⟩
theorem rowIds_mem : ∀ {ss : List Sr} {r : Nat}, r ∈ rowIds ss ↔ (Sr.row r ∈ ss ∨ ∃ i f, Sr.inn r i f ∈ ss)
  | [], r => by simp [rowIds]
  | .row r' :: ss, r => by
    simp only [rowIds, List.mem_cons, rowIds_mem (ss := ss), Sr.row.injEq]
    constructor
    · rintro (e | h | ⟨i, f, h⟩)
      · exact .inl (.inl e)
      · exact .inl (.inr h)
      · exact .inr ⟨i, f, .inr h⟩
    · rintro ((e | h) | ⟨i, f, (h | h)⟩)
      · exact .inl e
      · exact .inr (.inl h)
      · cases h
      · exact .inr (.inr ⟨i, f, h⟩)
  | .inn r' i' f' :: ss, r => by
    simp only [rowIds, List.mem_cons, rowIds_mem (ss := ss), Sr.inn.injEq]
    constructor
    · rintro (e | h | ⟨i, f, h⟩)
      · exact .inr ⟨i', f', .inl ⟨e, rfl, rfl⟩⟩
      · exact .inl (.inr h)
      · exact .inr ⟨i, f, .inr h⟩
    · rintro ((e | h) | ⟨i, f, (h | h)⟩)
      · cases e
      · exact .inr (.inl h)
      · exact .inl h.1
      · exact .inr (.inr ⟨i, f, h⟩)
  | .nul :: ss, r => by simp [rowIds, rowIds_mem (ss := ss)]
  | .box r' f' n' :: ss, r => by simp [rowIds, rowIds_mem (ss := ss)]
theorem rowIds_sub : ∀ {ss : List Sr} {r : Nat}, r ∈ rowIds ss → r ∈ srcIds ss
  | .row r' :: ss, r, h => by
    simp only [rowIds, List.mem_cons] at h
    simp only [srcIds, Sr.id, List.mem_append, List.mem_singleton]
    exact h.imp id rowIds_sub
  | .inn r' _ _ :: ss, r, h => by
    simp only [rowIds, List.mem_cons] at h
    simp only [srcIds, Sr.id, List.mem_append, List.mem_singleton]
    exact h.imp id rowIds_sub
  | .nul :: ss, r, h => by
    simp only [rowIds] at h
    simp only [srcIds, List.mem_append]
    exact .inr (rowIds_sub h)
  | .box r' _ _ :: ss, r, h => by
    simp only [rowIds] at h
    simp only [srcIds, List.mem_append]
    exact .inr (rowIds_sub h)
theorem srcCells_noBox {sm : Nat} : ∀ {ts : Ty} {a : AV} {s : Sr}, s ∈ srcCells sm ts a → ∀ r f n, s ≠ .box r f n := by
  intro ts
  induction ts with
  | cons t ts _ ih =>
    intro a s hs r f n e
    cases a with
    | cons v a =>
      rcases List.mem_append.1 hs with hs | hs
      · subst e
        unfold srcCell at hs
        split at hs
        · cases hs
        · cases v <;> simp at hs
      · exact ih hs r f n e
    | _ => cases hs
  | _ => intro a s hs; cases a <;> cases hs
/-! ### One argument -/
theorem srcLen_one {R : List Root} {tm : List AV} {m : Md} {t : Ty} {a : AV} {x : t.den} (h : outOne ⟨tm, R⟩ m t a = some x) (h1 : m.ptr = false) (R1 : List Root) : (srcOne ⟨tm, R1⟩ m t a).length = idsOne m t := by
  have := srcOne_len h
  unfold srcOne at this ⊢
  rw [h1] at this ⊢
  exact this
theorem srcOne_agg {R : List Root} {tm : List AV} {m : Md} {t : Ty} {cs : AV} (hp : m.ptr = false) (hc : isCons t = true) : srcOne ⟨tm, R⟩ m t (.agg cs) = srcCells m.sm t cs := by unfold srcOne; rw [hp, hc]
theorem srcOne_cell {R : List Root} {tm : List AV} {m : Md} {t : Ty} {v : AV} (hp : m.ptr = false) (hc : isCons t = false) : srcOne ⟨tm, R⟩ m t v = srcCell m.sm t v := by unfold srcOne; rw [hp, hc]
theorem one_back {G1 Gl G' : Gh} {w w' : World} {R0 R1 Rf : List Root} {tm : List AV} {m : Md} {t : Ty} {y : t.den} {v : AV} {val : Value} {j n : Nat} {L : List (Nat × Nat)} {ps : List Put} {N : List Root} {x : t.den} (hR : RelR G1 R1 w) (hff : Lk G1 w G' w' .free .free)
    (h : backOne ⟨tm, R1⟩ m t y v n = some (ps, N)) (hout : outOne ⟨tm, R0⟩ m t v = some x) (hv : (avR G1 R1 w v).1 val) (hL : consec L j (idsOne m t)) (hc : hOne Gl w' m t y val L) (hb : BackOne G1 w Gl G' w' R1 tm m t v j n)
    (hrow : ∀ r ∈ rowIds (srcOne ⟨tm, R1⟩ m t v), ∃ q, R1[r]? = some q ∧ ∀ cs ss, q.k ≠ .box cs ss) (hf : hasRoCs m.sm t = true → Lk Gl w' G' w' .free .free) :
    N.length = newIds m t ∧ InOk G' w' n N.length N (fun G R => CellOk G1 G R w' ps) ∧ RootPuts G1 w G' Rf w' R1 ps ∧ (∀ s ∈ srcOne ⟨tm, R1⟩ m t v, Put1 ps s) ∧ (∀ p ∈ ps, p.at ∈ srcIds (srcOne ⟨tm, R1⟩ m t v)) := by
  unfold backOne at h
  unfold hOne at hc
  unfold BackOne at hb
  unfold idsOne at hL
  unfold newIds
  cases hp : m.ptr with
  | true =>
    rw [hp] at h hc hb hL
    simp only at h hc hb hL ⊢
    cases v with
    | bp r f =>
      simp only at h
      cases hbx : isBoxAt R1 r with
      | false => rw [hbx] at h; cases h
      | true =>
        rw [hbx] at h
        simp only [Option.some.injEq, Prod.mk.injEq] at h
        obtain ⟨e1, e2⟩ := h
        have hsrc : srcOne ⟨tm, R1⟩ m t (.bp r f) = .box r f t.size :: srcCells m.sm t (boxCells ⟨tm, R1⟩ r f t.size) := by unfold srcOne; rw [hp]
        rw [hsrc] at hrow ⊢
        generalize hS : srcCells m.sm t (boxCells ⟨tm, R1⟩ r f t.size) = S at e1 hrow
        have hSb : ∀ s ∈ S, ∀ r f n, s ≠ .box r f n := by rw [← hS]; exact fun s hs => srcCells_noBox hs
        have hkill := kill_back (G1 := G1) (G' := G') (w := w) (w' := w') (R1 := R1) (Rf := Rf) (tm := tm) (rowIds S) (fun r hr q hq => by
          obtain ⟨q', h1, h2⟩ := hrow r hr
          rw [hq] at h1; cases h1; exact h2)
        obtain ⟨b, o, vs, ev, hvl, h0, hcs, hcells⟩ := hc
        obtain ⟨b1, b2⟩ := hb
        have hhead := hL.head (by omega)
        rw [hhead] at hcs
        have hlk := b1 r f rfl
        obtain ⟨q, hq, g⟩ := hv
        obtain ⟨kk, ver, anc⟩ := q
        have hk : ∃ cs ss, kk = .box cs ss := by
          simp only [isBoxAt, hq] at hbx
          cases kk with
          | box cs ss => exact ⟨cs, ss, rfl⟩
          | _ => cases hbx
        obtain ⟨cs, ss, hk⟩ := hk
        subst hk
        obtain ⟨b0, o0, ea, ev'⟩ := g cs.length .nil rfl
        rw [ev] at ev'
        have ebo : b = b0 ∧ o = o0 + f := by simpa using ev'
        obtain ⟨eb, eo⟩ := ebo
        subst eb; subst eo
        have hcells' : hCells G' w' m.sm t y vs (labs n (idsCells m.sm t)) := cells_ren (soft := false) hcells hf (fun i hi => by
          have a1 : (L.drop 1).getD i (0, 0) = (j + 1 + i, 0) := hL.right i hi
          have a2 := labs_consec n (idsCells m.sm t) i hi
          rw [a1, a2]; exact b2 i hi)
        have hin := in_cells hcells' (labs_consec n _)
        have hNl : N.length = idsCells m.sm t := by rw [← e2, rowCells_len]
        refine ⟨hNl, ?_, ?_, ?_, ?_⟩
        · rw [hNl, ← e2]
          obtain ⟨k1, A, k2, k3⟩ := hin
          refine ⟨k1, A, k2, fun an han R' hR' => ?_⟩
          obtain ⟨g1, g2⟩ := k3 an han R' hR'
          refine ⟨g1, fun r' f' v' hm => ?_⟩
          rw [← e1] at hm
          rcases List.mem_append.1 hm with hm | hm
          · obtain ⟨_, _, e, _⟩ := killPuts_mem hm; cases e
          · obtain ⟨i, hi, e⟩ := cellPuts_mem hm
            cases e
            rw [inCells_len] at hi
            obtain ⟨l1, l2⟩ := avs_get _ _ g2
            obtain ⟨c1, c2, c3⟩ := hcs i hi
            refine ⟨b, o0, vs.getD i undef, ea, ?_, ?_, ?_, l2 i (by omega)⟩
            · rw [← Nat.add_assoc]; exact (hlk _ _ (lt_of_at c3) c1).1
            · rw [← Nat.add_assoc]; exact c2
            · rw [← Nat.add_assoc]; exact c3
        · intro p hp'
          rw [← e1] at hp'
          rcases List.mem_append.1 hp' with h | h
          · exact .inr ⟨_, hkill p h⟩
          · obtain ⟨i, _, e⟩ := cellPuts_mem h; exact .inl ⟨_, _, _, e⟩
        · intro s hs
          rw [← e1]
          rcases List.mem_cons.1 hs with e | hs
          · subst e
            intro i hi
            obtain ⟨v', h⟩ := mem_cellPuts (r := r) (f := f) (a := inCells m.sm t y n) (i := i) (by rw [inCells_len]; exact hi)
            exact ⟨v', List.mem_append_right _ h⟩
          · refine Put1.left ?_
            have hs' := hs
            cases s with
            | nul => trivial
            | row r' =>
              have hm : r' ∈ rowIds S := rowIds_mem.2 (.inl hs')
              obtain ⟨q', hq', _⟩ := hrow r' hm
              exact mem_killPuts hm hq'
            | inn r' i f' =>
              have hm : r' ∈ rowIds S := rowIds_mem.2 (.inr ⟨i, f', hs'⟩)
              obtain ⟨q', hq', _⟩ := hrow r' hm
              exact mem_killPuts hm hq'
            | box r' f' n' => exact absurd rfl (hSb _ hs' r' f' n')
        · intro p hp'
          rw [← e1] at hp'
          simp only [srcIds, Sr.id, List.mem_append, List.mem_singleton]
          rcases List.mem_append.1 hp' with h | h
          · obtain ⟨r', q', e, hm⟩ := killPuts_mem h
            subst e; exact .inr (rowIds_sub hm)
          · obtain ⟨i, _, e⟩ := cellPuts_mem h; subst e; exact .inl rfl
    | _ => cases h
  | false =>
    rw [hp] at h hc hb hL
    simp only at h hc hb hL ⊢
    cases hcn : isCons t with
    | true =>
      rw [hcn] at h hc hL
      simp only at h hc hL
      cases v with
      | agg cs =>
        simp only at h
        have hso := srcOne_agg (R := R1) (tm := tm) (cs := cs) hp hcn
        rw [hso] at hb ⊢
        split at h
        · rename_i ps' hps
          cases h
          obtain ⟨vs, ev, hc⟩ := hc
          obtain ⟨vs', ev', hv'⟩ := hv
          rw [ev] at ev'
          have : vs = vs' := by simpa using ev'
          subst this
          have hc' : hCells Gl w' m.sm t y vs (labs j (idsCells m.sm t)) := by
            have key : ∀ (ts : Ty) (y : ts.den) (vs : List Value) (L L' : List (Nat × Nat)), (∀ i, i < idsCells m.sm ts → L.getD i (0, 0) = L'.getD i (0, 0)) → hCells Gl w' m.sm ts y vs L → hCells Gl w' m.sm ts y vs L' := by
              intro ts
              induction ts with
              | nil => intro y vs L L' _ h; exact h
              | cons t ts _ ih =>
                intro y vs L L' hl h
                obtain ⟨v, vs', e, h1, h2⟩ := h
                refine ⟨v, vs', e, ?_, ih _ _ _ _ (fun i hi => ?_) h2⟩
                · cases ho : isOwn m.sm t with
                  | false => unfold hCell at h1 ⊢; rw [ho] at h1 ⊢; exact h1
                  | true =>
                    have := hl 0 (by simp [idsCells, idsCell, ho]; omega)
                    rw [← headD_getD, ← headD_getD] at this
                    rw [← this]; exact h1
                · have := hl (idsCell m.sm t + i) (by simp only [idsCells]; omega)
                  simp only [List.getD_eq_getElem?_getD, List.getElem?_drop] at this ⊢
                  exact this
              | _ => intro y vs L L' _ h; exact h.elim
            exact key t y vs L _ (fun i hi => by rw [hL i hi, labs_consec j _ i hi]) hc
          have hP := cells_back (Rf := Rf) hR hff hps hv' hc' hb hf
          obtain ⟨p1, p2⟩ := cells_put hps
          exact ⟨rfl, InOk.none (fun an R' => noCell (R := R1) hP _ _), fun p hp => .inr ⟨_, hP p hp⟩, p1, p2⟩
        · cases h
      | _ => cases h
    | false =>
      rw [hcn] at h hc hL
      simp only at h hc hL
      have hso := srcOne_cell (R := R1) (tm := tm) (v := v) hp hcn
      rw [hso] at hb ⊢
      split at h
      · rename_i ps' hps
        cases h
        have hc' : hCell Gl w' m.sm t y val (j, 0) := by
          cases ho : isOwn m.sm t with
          | true => rw [hL.head (by simp [idsCell, ho])] at hc; exact hc
          | false => unfold hCell at hc ⊢; rw [ho] at hc ⊢; exact hc
        have hP := cell_back (Rf := Rf) hR hps hv hc' (fun s hs => by
          cases hsl : srcCell m.sm t v with
          | nil => rw [hsl] at hs; cases hs
          | cons s0 ss =>
            have hlen := srcCell_len m.sm t v
            rw [hsl] at hs hb hlen
            have : ss = [] := by
              have h1 : idsCell m.sm t ≤ 1 := by unfold idsCell; split <;> simp
              simp at hlen
              cases ss with
              | nil => rfl
              | cons _ _ => simp at hlen; omega
            subst this
            rw [List.mem_singleton.1 hs]; exact hb.1) hff (fun hh => hf (by
              cases t with
              | cons _ _ => cases hcn
              | nil => cases hcn
              | _ => exact hh))
        obtain ⟨p1, p2⟩ := cell_put hps
        exact ⟨rfl, InOk.none (fun an R' => noCell (R := R1) hP _ _), fun p hp => .inr ⟨_, hP p hp⟩, p1, p2⟩
      · cases h
/-! ### All arguments -/
theorem rowIds_append : ∀ (ss ts : List Sr), rowIds (ss ++ ts) = rowIds ss ++ rowIds ts
  | [], _ => rfl
  | .row r :: ss, ts => by simp [rowIds, rowIds_append ss ts]
  | .inn r _ _ :: ss, ts => by simp [rowIds, rowIds_append ss ts]
  | .nul :: ss, ts => by simp [rowIds, rowIds_append ss ts]
  | .box _ _ _ :: ss, ts => by simp [rowIds, rowIds_append ss ts]
theorem src_unlent {R : List Root} {tm : List AV} {m : Md} {t : Ty} {v : AV} (h : isLent m = false) : srcOne ⟨tm, R⟩ m t v = [] := by
  unfold isLent at h
  obtain ⟨h1, h2⟩ := Bool.or_eq_false_iff.1 h
  have hsm : m.sm = 0 := beq_nat (by simpa using h2)
  have h3 : ∀ (t : Ty) (v : AV), srcCell m.sm t v = [] := fun t v => by rw [hsm]; simp [srcCell, isOwn]
  have h4 : ∀ (t : Ty) (a : AV), srcCells m.sm t a = [] := by
    intro t
    induction t with
    | cons t ts _ ih =>
      intro a
      cases a with
      | cons v a => simp [srcCells, h3, ih]
      | _ => rfl
    | _ => intro a; cases a <;> rfl
  unfold srcOne
  rw [h1]
  simp only
  cases isCons t with
  | true => cases v <;> simp [h4]
  | false => exact h3 _ _
theorem RootPuts.append {G1 : Gh} {w : World} {G' : Gh} {Rf : List Root} {w' : World} {R1 : List Root} {ps ps' : List Put} (h : RootPuts G1 w G' Rf w' R1 ps) (h' : RootPuts G1 w G' Rf w' R1 ps') : RootPuts G1 w G' Rf w' R1 (ps ++ ps') := fun p hp => by
  rcases List.mem_append.1 hp with hp | hp
  · exact h p hp
  · exact h' p hp
theorem all_back {G1 Gl G' : Gh} {w w' : World} {R0 R1 Rf : List Root} {tm : List AV} (hR : RelR G1 R1 w) (hff : Lk G1 w G' w' .free .free) : ∀ {PT : Ty} {pm : List Md} {as : List AV} {x : PT.den} {args : List Value} {ts : Ty} {y : ts.den} {ms : List Md} {j n : Nat} {ps : List Put} {N : List Root},
    outAll ⟨tm, R0⟩ PT pm as = some x → as.length = args.length → (∀ i, i < as.length → (avR G1 R1 w (as.getD i .undef)).1 (args.getD i undef)) → backAll ⟨tm, R1⟩ (withTys PT pm as) ts y ms n = some (ps, N) → hAll Gl w' ts y ms (lentV pm args) (labs j (idsAll ts ms)) →
    BackAll G1 w Gl G' w' R1 tm (withTys PT pm as) j n → (∀ r ∈ rowIds (srcAll ⟨tm, R1⟩ PT pm as), ∃ q, R1[r]? = some q ∧ ∀ cs ss, q.k ≠ .box cs ss) → (hasRo ts ms = true → Lk Gl w' G' w' .free .free) →
    InOk G' w' n N.length N (fun G R => CellOk G1 G R w' ps) ∧ RootPuts G1 w G' Rf w' R1 ps ∧ (∀ s ∈ srcAll ⟨tm, R1⟩ PT pm as, Put1 ps s) ∧ (∀ p ∈ ps, p.at ∈ srcIds (srcAll ⟨tm, R1⟩ PT pm as)) := by
  intro PT
  induction PT with
  | nil =>
    intro pm as x args ts y ms j n ps N hout hlen hv hb hall hB hrow hro
    cases pm with
    | cons _ _ => cases as <;> cases hout
    | nil =>
      cases as with
      | cons _ _ => cases hout
      | nil =>
        simp only [withTys] at hb
        cases ts with
        | nil =>
          cases ms with
          | nil => cases hb; exact ⟨InOk.none (fun an R' r f v hm => by cases hm), fun p hp => (by cases hp), fun s hs => (by cases hs), fun p hp => (by cases hp)⟩
          | cons _ _ => cases hb
        | _ => cases ms <;> cases hb
  | cons t PT _ ih =>
    intro pm as x args ts y ms j n ps N hout hlen hv hb hall hB hrow hro
    cases pm with
    | nil => cases as <;> cases hout
    | cons m pm =>
      cases as with
      | nil => cases hout
      | cons v as =>
        cases args with
        | nil => simp at hlen
        | cons a args =>
          simp only [outAll] at hout
          split at hout
          · rename_i x0 y0 ho1 ho2
            simp only [withTys, backAll] at hb
            simp only [withTys, BackAll] at hB
            simp only [lentV] at hall
            simp only [srcAll, srcIds_append, rowIds_append] at hrow ⊢
            cases hl : isLent m with
            | false =>
              rw [hl] at hb hB hall
              simp only at hb hB hall
              rw [src_unlent hl] at hrow ⊢
              exact ih ho2 (by simpa using hlen) (fun i hi => by simpa using hv (i + 1) (by simpa using hi)) hb hall hB hrow hro
            | true =>
              rw [hl] at hb hB hall
              simp only at hb hB hall
              obtain ⟨B1, B2⟩ := hB
              split at hb
              · rename_i t' ts' y' m' ms' 
                split at hb
                · rename_i ps1 rs1 hcond hone
                  split at hb
                  · rename_i ps2 rs2 hrest
                    cases hb
                    obtain ⟨hc12, hc3⟩ := and2 hcond
                    obtain ⟨hc1, hc2⟩ := and2 hc12
                    have et : t = t' := eq?_some hc3
                    subst et
                    have em : m' = m := by
                      obtain ⟨p1, s1⟩ := m
                      obtain ⟨p2, s2⟩ := m'
                      have h1 : p2 = p1 := eq_of_beq hc1
                      have h2 : s2 = s1 := beq_nat hc2
                      rw [h1, h2]
                    subst em
                    obtain ⟨hall1, hall2⟩ := hall
                    have hd : (labs j (idsAll (.cons t ts') (m' :: ms'))).drop (idsOne m' t) = labs (j + idsOne m' t) (idsAll ts' ms') := labs_drop j _ _
                    rw [hd] at hall2
                    obtain ⟨o1, o2, o3, o4, o5⟩ := one_back (Rf := Rf) hR hff hone ho1 (by simpa using hv 0 (by simp)) (labs_consec j _).left hall1 B1 (fun r hr => hrow r (List.mem_append_left _ hr)) (fun hh => hro (by simp [hasRo, hh]))
                    rw [← o1] at B2
                    obtain ⟨i1, i2, i3, i4⟩ := ih ho2 (by simpa using hlen) (fun i hi => by simpa using hv (i + 1) (by simpa using hi)) hrest hall2 B2 (fun r hr => hrow r (List.mem_append_right _ hr)) (fun hh => hro (by simp [hasRo, hh]))
                    refine ⟨?_, i2 |> RootPuts.append o3, fun s hs => ?_, fun p hp => ?_⟩
                    · obtain ⟨k1, A, k2, k3⟩ := o2.append i1
                      refine ⟨by rw [List.length_append], A, by rw [List.length_append]; exact k2, fun an han R' hR' => ?_⟩
                      obtain ⟨g1, g2, g3⟩ := k3 an (by rw [List.length_append] at han; exact han) R' hR'
                      refine ⟨g1, fun r f v hm => ?_⟩
                      rcases List.mem_append.1 hm with hm | hm
                      · exact g2 r f v hm
                      · exact g3 r f v hm
                    · rcases List.mem_append.1 hs with hs | hs
                      · exact (o4 s hs).left
                      · exact (i3 s hs).right
                    · rcases List.mem_append.1 hp with hp | hp
                      · exact List.mem_append_left _ (o5 p hp)
                      · exact List.mem_append_right _ (i4 p hp)
                  · cases hb
                · cases hb
              · cases hb
          · cases hout
  | _ => intro pm as x args ts y ms j n ps N hout; cases pm <;> cases as <;> cases hout
end
end Go.Proofs.YtpihkhknehadbaaGreat.Eng
