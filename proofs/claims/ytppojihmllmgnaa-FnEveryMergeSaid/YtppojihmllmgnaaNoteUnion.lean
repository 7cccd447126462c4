/- Merged lists of notes as sets: membership, order, what is refused. No condition. -/
import Derived.Test.YtppojihmllmgnaaNoteMerge
namespace Go.Proofs.Ytppojihmllmgnaa.F
open Go.RowKit Go.Proofs.YtppojihmllmgnaaW.PrintWords Go.Proofs.YtppojihmllmgnaaW.PrintLast Go.Proofs.Ytppojihmllmgnaa.Opn
set_option linter.unusedVariables false
set_option linter.unusedSimpArgs false
abbrev Asc (l : List Nt) : Prop := l.Pairwise (fun a b => a.f0 < b.f0)
theorem asc_extN : ∀ (l1 l2 : List Nt), Asc l1 → Asc l2 → (∀ x, x ∈ l1 ↔ x ∈ l2) → l1 = l2
  | [], [], _, _, _ => rfl
  | [], b :: l2, _, _, h => absurd ((h b).2 List.mem_cons_self) (by simp)
  | a :: l1, [], _, _, h => absurd ((h a).1 List.mem_cons_self) (by simp)
  | a :: l1, b :: l2, h1, h2, h => by
    unfold Asc at h1 h2
    rw [List.pairwise_cons] at h1 h2
    have hab : a = b := by
      rcases List.mem_cons.1 ((h a).1 List.mem_cons_self) with e | e
      · exact e
      · rcases List.mem_cons.1 ((h b).2 List.mem_cons_self) with e' | e'
        · exact e'.symm
        · have := h2.1 a e
          have := h1.1 b e'
          omega
    subst hab
    congr 1
    refine asc_extN l1 l2 h1.2 h2.2 (fun x => ⟨fun hx => ?_, fun hx => ?_⟩)
    · rcases List.mem_cons.1 ((h x).1 (List.mem_cons_of_mem _ hx)) with e | e
      · have := h1.1 x hx
        rw [e] at this
        omega
      · exact e
    · rcases List.mem_cons.1 ((h x).2 (List.mem_cons_of_mem _ hx)) with e | e
      · have := h2.1 x hx
        rw [e] at this
        omega
      · exact e
/-- No number tells two notes. -/
def agree (a b : List Nt) : Prop := ∀ x ∈ a, ∀ y ∈ b, x.f0 = y.f0 → x = y
theorem agree_comm {a b : List Nt} : agree a b → agree b a := fun h x hx y hy e => (h y hy x hx e.symm).symm
theorem eqN_iff {x n : Nt} : eqN x n = true ↔ x = n := by
  obtain ⟨a1, a2, a3, a4, a5⟩ := x
  obtain ⟨b1, b2, b3, b4, b5⟩ := n
  unfold eqN
  simp only [Bool.and_eq_true, beq_iff_eq]
  constructor
  · rintro ⟨h1, h2, h3, h4, h5⟩
    subst h1 h2 h3 h4 h5
    rfl
  · intro h
    injection h with h1 h2 h3 h4 h5
    exact ⟨h1, h2, h3, h4, h5⟩
theorem agree_conf {a b : List Nt} (ha : notesOk a = true) : agree a b ↔ ∀ j, j < b.length → ¬ conf a (b.getD j z25) := by
  have hasc := notesOk_asc ha
  constructor
  · intro h j hj hc
    have hm : b.getD j z25 ∈ b := by
      rw [List.getD_eq_getElem?_getD, List.getElem?_eq_getElem hj]
      exact List.getElem_mem _
    by_cases hex : ∃ x, x ∈ a ∧ x.f0 = (b.getD j z25).f0
    · obtain ⟨x, hx, he⟩ := hex
      have := h x hx _ hm he
      have h8 := at8_mem hasc hx
      rw [he] at h8
      have h2 := hc.2
      rw [h8, eqN_iff.2 this] at h2
      cases h2
    · have := hc.1
      rw [at8_none (fun x hx he => hex ⟨x, hx, he⟩)] at this
      exact this rfl
  · intro h x hx y hy he
    obtain ⟨j, hj, rfl⟩ := List.getElem_of_mem hy
    have hn := h j hj
    have hg : b.getD j z25 = b[j] := by rw [List.getD_eq_getElem?_getD, List.getElem?_eq_getElem hj]; rfl
    rw [hg] at hn
    have h8 := at8_mem hasc hx
    rw [he] at h8
    by_cases c : eqN x b[j] = true
    · exact eqN_iff.1 c
    · refine absurd ⟨?_, ?_⟩ hn
      · rw [h8]
        have := (noteOk_f0 (notesOk_all ha x hx)).1
        omega
      · rw [h8]; exact Bool.eq_false_iff.2 c
/-- Where they agree: what is merged is what stands in one or the other. -/
theorem mem_mrg {a b : List Nt} (ha : notesOk a = true) (hb : notesOk b = true) (hag : agree a b) (x : Nt) : x ∈ mrg a b b.length ↔ x ∈ a ∨ x ∈ b := by
  obtain ⟨h1, h2, h3, h4⟩ := mrg_inv ha hb b.length (Nat.le_refl _)
  constructor
  · intro hx
    rcases h4 x hx with h | ⟨j, hj, rfl⟩
    · exact .inl h
    · right
      rw [List.getD_eq_getElem?_getD, List.getElem?_eq_getElem hj]
      exact List.getElem_mem _
  · rintro (h | h)
    · exact h3 x h
    · obtain ⟨j, hj, rfl⟩ := List.getElem_of_mem h
      have hg : b.getD j z25 = b[j] := by rw [List.getD_eq_getElem?_getD, List.getElem?_eq_getElem hj]; rfl
      have grow : ∀ i, j < i → i ≤ b.length → b[j] ∈ mrg a b i := by
        intro i
        induction i with
        | zero => intro h; omega
        | succ i ih =>
          intro hji hi
          by_cases e : j = i
          · subst e
            simp only [mrg, hg]
            split
            · exact mem_ins.2 (.inr rfl)
            · rename_i hz
              by_cases hex : ∃ y, y ∈ a ∧ y.f0 = b[j].f0
              · obtain ⟨y, hy, he⟩ := hex
                have := hag y hy _ (List.getElem_mem hj) he
                rw [← this]
                exact (mrg_inv ha hb j (by omega)).2.2.1 y hy
              · exact absurd (by rw [at8_none (fun y hy he => hex ⟨y, hy, he⟩)]) hz
          · have := ih (by omega) (by omega)
            simp only [mrg]
            split
            · exact mem_ins.2 (.inl this)
            · exact this
      exact grow b.length hj (Nat.le_refl _)
theorem mrg_asc {a b : List Nt} (ha : notesOk a = true) (hb : notesOk b = true) : Asc (mrg a b b.length) := (mrg_inv ha hb b.length (Nat.le_refl _)).1
theorem mrg_comm {a b : List Nt} (ha : notesOk a = true) (hb : notesOk b = true) (hag : agree a b) : mrg a b b.length = mrg b a a.length :=
  asc_extN _ _ (mrg_asc ha hb) (mrg_asc hb ha) (fun x => by rw [mem_mrg ha hb hag, mem_mrg hb ha (agree_comm hag), or_comm])
theorem mrgN_comm (a b : List Nt) : mrgN a b = mrgN b a := by
  unfold mrgN
  by_cases ha : notesOk a = true
  · by_cases hb : notesOk b = true
    · by_cases hag : agree a b
      · have h1 := (agree_conf ha).1 hag
        have h2 := (agree_conf hb).1 (agree_comm hag)
        rw [mrg_comm ha hb hag]
        by_cases hl : (mrg b a a.length).length ≤ 60
        · rw [if_pos ⟨⟨ha, hb⟩, h1, hl⟩, if_pos ⟨⟨hb, ha⟩, h2, hl⟩]
        · rw [if_neg (fun h => hl h.2.2), if_neg (fun h => hl h.2.2)]
      · rw [if_neg (fun h => hag ((agree_conf ha).2 h.2.1)), if_neg (fun h => hag (agree_comm ((agree_conf hb).2 h.2.1)))]
    · rw [if_neg (fun h => hb h.1.2), if_neg (fun h => hb h.1.1)]
  · rw [if_neg (fun h => ha h.1.1), if_neg (fun h => ha h.1.2)]
end Go.Proofs.Ytppojihmllmgnaa.F
