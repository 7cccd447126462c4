/- Labels renamed. No condition. -/
import Derived.Test.YtpihkhknehadbaaGreatEngMeet
namespace Go.Proofs.YtpihkhknehadbaaGreat.Eng
open Go.RowKit
set_option linter.unusedVariables false
section
variable {G G' : Gh} {w : World}
theorem el_noSl {c : Nat → Nat → Option Value} {cv cv' : Nat → (t : Ty) → t.den → Value → Prop} (h : ∀ k t x v, t.isSl = false → cv k t x v → cv' k t x v) : ∀ (ts : Ty) (x : ts.den) (b o k : Nat), ts.hasSl = false → elG c cv ts x b o k → elG c cv' ts x b o k
  | .cons t ts, x, b, o, k, hs, ⟨⟨v, e, g⟩, hk⟩ => by
    simp only [Ty.hasSl, Bool.or_eq_false_iff] at hs
    exact ⟨⟨v, e, h k t x.1 v hs.1 g⟩, el_noSl h ts x.2 b (o + 1) (k + 1) hs.2 hk⟩
  | .bool, _, _, _, _, _, _ => trivial
  | .int _, _, _, _, _, _, _ => trivial
  | .str, _, _, _, _, _, _ => trivial
  | .nil, _, _, _, _, _, _ => trivial
  | .slice _, _, _, _, _, _, _ => trivial
theorem ro_prim {u u' : Nat → Nat → Option Value} {t : Ty} {x : t.den} {v : Value} (hs : t.isSl = false) (h : (ro u t).1 x v) : (ro u' t).1 x v := by
  cases t with
  | slice us => cases hs
  | bool => exact h
  | int k => exact h
  | str => exact h
  | nil => exact h
  | cons _ _ => exact h
/-- a row's cells stand, each told by another word -/
theorem rowG_ren {cv cv' : Nat → (t : Ty) → t.den → Value → Prop} {L L' : Lab} {ts : Ty} {l : List ts.den} {a : Option Addr} {n : Nat} (hc : Lk G w G' w L L') (hv : ∀ (x : ts.den) (b o k : Nat), elG (at_ w) cv ts x b o k → elG (at_ w) cv' ts x b o k)
    (h : rowG G w cv L ts l a n) : rowG G' w cv' L' ts l a n := by
  obtain ⟨h0, h⟩ := h
  refine ⟨h0, h.imp id ?_⟩
  rintro ⟨b, o, ea, h1, h2⟩
  refine ⟨b, o, ea, fun j hj => ?_, fun i hi => hv _ _ _ _ (h2 i hi)⟩
  obtain ⟨k1, k2, k3⟩ := h1 j hj
  obtain ⟨c1, c2, c3⟩ := hc _ _ (lt_of_some k3) k1
  exact ⟨c1, k2, k3⟩
theorem el_deep {r r' : Nat} (hl : ∀ k, Lk G w G' w (.of r (k + 1)) (.of r' (k + 1))) : ∀ (ts : Ty) (x : ts.den) (b o k : Nat), ts.deep = false → elG (at_ w) (deepV G w r) ts x b o k → elG (at_ w) (deepV G' w r') ts x b o k
  | .cons t ts, x, b, o, k, hs, ⟨⟨v, e, g⟩, hk⟩ => by
    have hs' : (match t with | .slice vs => vs.hasSl | _ => false) = false ∧ ts.deep = false := by
      cases t with
      | slice vs => simpa [Ty.deep] using hs
      | _ => exact ⟨rfl, by simpa [Ty.deep] using hs⟩
    refine ⟨⟨v, e, ?_⟩, el_deep hl ts x.2 b (o + 1) (k + 1) hs'.2 hk⟩
    cases t with
    | slice vs =>
      obtain ⟨a, n, e1, g1⟩ := g
      exact ⟨a, n, e1, rowG_ren (hl k) (fun x b o k => el_noSl (fun k t x v hs g => ro_prim hs g) vs x b o k hs'.1) g1⟩
    | bool => exact g
    | int k => exact g
    | str => exact g
    | nil => exact g
    | cons _ _ => exact g
  | .bool, _, _, _, _, _, _ => trivial
  | .int _, _, _, _, _, _, _ => trivial
  | .str, _, _, _, _, _, _ => trivial
  | .nil, _, _, _, _, _, _ => trivial
  | .slice _, _, _, _, _, _, _ => trivial
/-- rows within that are read from now on -/
theorem el_soft {r : Nat} (hl : ∀ k, Lk G w G' w (.of r (k + 1)) .free) : ∀ (ts : Ty) (x : ts.den) (b o k : Nat), ts.deep = false → elG (at_ w) (deepV G w r) ts x b o k → elG (at_ w) (flatV (vw G' w)) ts x b o k
  | .cons t ts, x, b, o, k, hs, ⟨⟨v, e, g⟩, hk⟩ => by
    have hs' : (match t with | .slice vs => vs.hasSl | _ => false) = false ∧ ts.deep = false := by
      cases t with
      | slice vs => simpa [Ty.deep] using hs
      | _ => exact ⟨rfl, by simpa [Ty.deep] using hs⟩
    refine ⟨⟨v, e, ?_⟩, el_soft hl ts x.2 b (o + 1) (k + 1) hs'.2 hk⟩
    cases t with
    | slice vs =>
      obtain ⟨a, n, e1, g1⟩ := g
      rw [e1]
      refine ⟨a, n, rfl, g1.1, fun i hi => ?_⟩
      obtain ⟨b', p', ea, h1, h2⟩ := row_elem g1 hi
      refine ⟨b', p', ea, (elG_ro vs _ b' _ (i * vs.size)).2 ?_⟩
      have h3 := el_noSl (cv' := flatV (vw G' w)) (fun k t x v hs g => ro_prim hs g) vs _ _ _ _ hs'.1 h2
      exact elG_mono vs _ b' _ _ (fun j v hj e => vw_some.2 ⟨(hl k _ _ (lt_of_at e) (h1 j hj).1).1, e⟩) (fun _ _ _ _ g => g) h3
    | bool => exact g
    | int k => exact g
    | str => exact g
    | nil => exact g
    | cons _ _ => exact g
  | .bool, _, _, _, _, _, _ => trivial
  | .int _, _, _, _, _, _, _ => trivial
  | .str, _, _, _, _, _, _ => trivial
  | .nil, _, _, _, _, _, _ => trivial
  | .slice _, _, _, _, _, _, _ => trivial
/-- labels from p on turned to those from p' on; soft: the rows within are read from now on -/
def Ren (soft : Bool) (G : Gh) (w : World) (G' : Gh) (p p' : Nat × Nat) : Prop := p.2 = 0 ∧ p'.2 = 0 ∧ Lk G w G' w (.of p.1 0) (.of p'.1 0) ∧ match soft with
  | true => ∀ s, Lk G w G' w (.of p.1 (s + 1)) .free
  | false => ∀ s, Lk G w G' w (.of p.1 (s + 1)) (.of p'.1 (s + 1))
def sftN (soft : Bool) (sm : Nat) : Nat := match soft with | true => (match sm with | 2 => 1 | n => n) | false => sm
theorem sft_own {soft : Bool} {sm : Nat} {t : Ty} : isOwn (sftN soft sm) t = isOwn sm t := by
  cases soft with
  | false => rfl
  | true =>
    unfold sftN isOwn
    rcases sm with _ | _ | _ | n <;> rfl
theorem cell_ren {soft : Bool} {sm : Nat} {t : Ty} {x : t.den} {v : Value} {p p' : Nat × Nat} (h : hCell G w sm t x v p) (hf : hasRoC sm t = true → Lk G w G' w .free .free) (hr : isOwn sm t = true → Ren soft G w G' p p') : hCell G' w (sftN soft sm) t x v p' := by
  unfold hCell at h ⊢
  rw [sft_own]
  cases ho : isOwn sm t with
  | false =>
    rw [ho] at h
    simp only at h ⊢
    by_cases hs : t.isSl = true
    · have hsm : sm = 0 := by
        unfold isOwn at ho
        rw [hs, Bool.and_true] at ho
        have : Nat.beq sm 0 = true := by simpa using ho
        exact beq_nat this
      subst hsm
      have hro : hasRoC 0 t = true := by
        cases t with
        | slice us => rfl
        | _ => cases hs
      exact (ro_mono (vw_free (hf hro)) t).1 _ _ h
    · exact ro_prim (by simpa using hs) h
  | true =>
    rw [ho] at h
    obtain ⟨us, e⟩ := own_slice ho
    subst e
    obtain ⟨a, c, ev, hrow, hz⟩ := h
    obtain ⟨hp, hp', hl0, hl⟩ := hr ho
    have hsm0 : sm ≠ 0 := fun e => by subst e; simp [isOwn] at ho
    show ∃ a c, v = .slice a (List.length x) c ∧ rowG G' w (cvOf G' w p'.1 (Nat.beq (sftN soft sm) 2 && us.hasSl)) (.of p'.1 p'.2) us x a c ∧ ((Nat.beq (sftN soft sm) 2 && us.hasSl) = true → p'.2 = 0)
    rw [hp] at hrow
    rw [hp']
    refine ⟨a, c, ev, rowG_ren hl0 (fun x b o k hel => ?_) hrow, fun _ => rfl⟩
    cases hsl : us.hasSl with
    | false =>
      simp only [hsl, Bool.and_false, cvOf] at hel ⊢
      exact el_noSl (fun k t x v hs g => ro_prim hs g) us x b o k hsl hel
    | true =>
      simp only [hsl, Bool.and_true] at hel ⊢
      cases soft with
      | false =>
        simp only [sftN] at hf ⊢
        cases hb : Nat.beq sm 2 with
        | true =>
          have e2 := beq_nat hb
          subst e2
          rw [hb] at hel
          simp only [cvOf] at hel ⊢
          cases hd : us.deep with
          | false => exact el_deep hl us x b o k hd hel
          | true => exact elG_mono us x b o k (fun _ _ _ e => e) (fun k t x v g => deepV_keep (vw_free (hf hd)) (hl k) t x v g) hel
        | false =>
          rw [hb] at hel
          simp only [cvOf] at hel ⊢
          have hro : hasRoC sm (.slice us) = true := by
            rcases sm with _ | _ | _ | n
            · rfl
            · exact hsl
            · cases hb
            · rfl
          exact elG_mono us x b o k (fun _ _ _ e => e) (fun k t x v g => flatV_keep (vw_free (hf hro)) k k t x v g) hel
      | true =>
        have hb' : Nat.beq (sftN true sm) 2 = false := by rcases sm with _ | _ | _ | n <;> rfl
        rw [hb']
        simp only [cvOf]
        cases hb : Nat.beq sm 2 with
        | false =>
          rw [hb] at hel
          have hro : hasRoC sm (.slice us) = true := by
            rcases sm with _ | _ | _ | n
            · rfl
            · exact hsl
            · cases hb
            · rfl
          exact elG_mono us x b o k (fun _ _ _ e => e) (fun k t x v g => flatV_keep (vw_free (hf hro)) k k t x v g) hel
        | true =>
          have e2 := beq_nat hb
          subst e2
          rw [hb] at hel
          simp only [cvOf] at hel
          cases hd : us.deep with
          | false => exact el_soft hl us x b o k hd hel
          | true =>
            have hff := hf hd
            refine elG_mono us x b o k (fun _ _ _ e => e) (fun k t x v g => ?_) hel
            cases t with
            | slice vs =>
              obtain ⟨a1, n1, e1, g1⟩ := g
              rw [e1]
              exact ro_of_flat hff (hl k) g1
            | bool => exact g
            | int k => exact g
            | str => exact g
            | nil => exact g
            | cons _ _ => exact g
/-- labels of k parts -/
def RenL (soft : Bool) (G : Gh) (w : World) (G' : Gh) (k : Nat) (L L' : List (Nat × Nat)) : Prop := ∀ j, j < k → Ren soft G w G' (L.getD j (0, 0)) (L'.getD j (0, 0))
theorem headD_getD (L : List (Nat × Nat)) : L.headD (0, 0) = L.getD 0 (0, 0) := by cases L <;> rfl
theorem RenL.right {soft : Bool} {k k' : Nat} {L L' : List (Nat × Nat)} (h : RenL soft G w G' (k + k') L L') : RenL soft G w G' k' (L.drop k) (L'.drop k) := fun j hj => by
  have := h (k + j) (by omega)
  simp only [List.getD_eq_getElem?_getD, List.getElem?_drop] at this ⊢
  exact this
theorem RenL.left {soft : Bool} {k k' : Nat} {L L' : List (Nat × Nat)} (h : RenL soft G w G' (k + k') L L') : RenL soft G w G' k L L' := fun j hj => h j (by omega)
theorem RenL.head {soft : Bool} {k : Nat} {L L' : List (Nat × Nat)} (h : RenL soft G w G' k L L') (hk : 0 < k) : Ren soft G w G' (L.headD (0, 0)) (L'.headD (0, 0)) := by
  rw [headD_getD, headD_getD]; exact h 0 hk
theorem sft_ids {soft : Bool} {sm : Nat} {t : Ty} : idsCell (sftN soft sm) t = idsCell sm t := by unfold idsCell; rw [sft_own]
theorem sft_idss {soft : Bool} {sm : Nat} : ∀ {ts : Ty}, idsCells (sftN soft sm) ts = idsCells sm ts := by
  intro ts
  induction ts with
  | cons t ts _ ih => simp only [idsCells, sft_ids, ih]
  | _ => rfl
theorem cells_ren {soft : Bool} {sm : Nat} : ∀ {ts : Ty} {x : ts.den} {vs : List Value} {L L' : List (Nat × Nat)}, hCells G w sm ts x vs L → (hasRoCs sm ts = true → Lk G w G' w .free .free) → RenL soft G w G' (idsCells sm ts) L L' → hCells G' w (sftN soft sm) ts x vs L' := by
  intro ts
  induction ts with
  | nil => intro x vs L L' h _ _; exact h
  | cons t ts _ ih =>
    intro x vs L L' h hf hr
    obtain ⟨v, vs', e, h1, h2⟩ := h
    refine ⟨v, vs', e, cell_ren h1 (fun hh => hf (by simp [hasRoCs, hh])) (fun ho => hr.head (by simp [idsCells, idsCell, ho]; omega)), ?_⟩
    rw [sft_ids]
    refine ih h2 (fun hh => ?_) hr.right
    cases ts with
    | nil => exact hf (by simp only [hasRoCs] at hh ⊢; rw [hh]; simp)
    | cons _ _ => exact hf (by simp only [hasRoCs] at hh ⊢; rw [hh]; simp)
    | _ => exact h2.elim
  | _ => intro x vs L L' h; exact h.elim
theorem intake_ptr {soft : Bool} {m : Md} : (intake soft m).ptr = m.ptr := by cases soft <;> rfl
theorem intake_sm {soft : Bool} {m : Md} : (intake soft m).sm = sftN soft m.sm := by
  cases soft with
  | false => rfl
  | true => obtain ⟨p, sm⟩ := m; rcases sm with _ | _ | _ | n <;> rfl
theorem intake_ids {soft : Bool} {m : Md} {t : Ty} : idsOne (intake soft m) t = idsOne m t := by
  unfold idsOne
  rw [intake_ptr, intake_sm, sft_idss, sft_ids]
theorem one_ren {soft : Bool} {m : Md} {t : Ty} {x : t.den} {v : Value} {L L' : List (Nat × Nat)} (h : hOne G w m t x v L) (hf : hasRoCs m.sm t = true → Lk G w G' w .free .free) (hr : RenL soft G w G' (idsOne m t) L L') : hOne G' w (intake soft m) t x v L' := by
  unfold hOne at h ⊢
  unfold idsOne at hr
  rw [intake_ptr, intake_sm]
  cases hp : m.ptr with
  | true =>
    rw [hp] at h hr
    obtain ⟨b, o, vs, ev, hl, h0, hc, hcs⟩ := h
    have hh := hr.head (by simp only; omega)
    refine ⟨b, o, vs, ev, hl, hh.2.1, fun f hf' => ?_, cells_ren hcs hf hr.right⟩
    obtain ⟨c1, c2, c3⟩ := hc f hf'
    exact ⟨(hh.2.2.1 _ _ (lt_of_at c3) c1).1, c2, c3⟩
  | false =>
    rw [hp] at h hr
    simp only at h hr ⊢
    cases hc : isCons t with
    | true =>
      rw [hc] at h hr
      obtain ⟨vs, e, h⟩ := h
      exact ⟨vs, e, cells_ren h hf hr⟩
    | false =>
      rw [hc] at h hr
      refine cell_ren h (fun hh => hf ?_) (fun ho => hr.head (by simp [idsCell, ho]))
      cases t with
      | cons _ _ => cases hc
      | nil => cases hc
      | _ => exact hh
end
end Go.Proofs.YtpihkhknehadbaaGreat.Eng
