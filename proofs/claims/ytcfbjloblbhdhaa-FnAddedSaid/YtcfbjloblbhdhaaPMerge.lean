/- Merged lists of notes: what is held, what is refused. No condition. -/
import Derived.Test.YtcfbjloblbhdhaaPNote
namespace Go.Proofs.Ytcfbjloblbhdhaa.Eng
set_option linter.unusedVariables false
set_option linter.unusedSimpArgs false
abbrev rN (l : List NoteT) (i : Nat) : NoteT := rdP (0, 0, 0, 0, 0, ()) l i
theorem rN_mem {l : List NoteT} {i : Nat} (h : i < l.length) : rN l i ∈ l := by unfold rN; rw [rd_lt h]; exact List.getElem_mem h
theorem mem_rN {l : List NoteT} {x : NoteT} (h : x ∈ l) : ∃ i, i < l.length ∧ x = rN l i := by
  obtain ⟨i, hi, e⟩ := List.getElem_of_mem h
  exact ⟨i, hi, by unfold rN; rw [rd_lt hi, e]⟩
theorem first_failN (n : Nat) (P : Nat → Prop) (h : ¬ ∀ j, j < n → P j) : ∃ m, m < n ∧ ¬ P m ∧ ∀ j, j < m → P j := by
  induction n with
  | zero => exact absurd (fun j hj => absurd hj (Nat.not_lt_zero _)) h
  | succ n ih =>
    by_cases hn : ∀ j, j < n → P j
    · refine ⟨n, Nat.lt_succ_self n, fun hp => h (fun j hj => ?_), hn⟩
      rcases Nat.lt_succ_iff_lt_or_eq.1 hj with h1 | rfl
      · exact hn j h1
      · exact hp
    · obtain ⟨m, h1, h2, h3⟩ := ih hn
      exact ⟨m, by omega, h2, h3⟩
theorem notesP_asc {l : List NoteT} (h : NotesP l) : l.Pairwise (fun a b => a.1 < b.1) := (asc_iff l).1 h.2.2
theorem notesP_of {l : List NoteT} (h1 : l.length ≤ 60) (h2 : ∀ x ∈ l, NoteP x) (h3 : l.Pairwise (fun a b => a.1 < b.1)) : NotesP l := ⟨h1, h2, (asc_iff l).2 h3⟩
theorem asc_uniq {l : List NoteT} (h : l.Pairwise (fun a b => a.1 < b.1)) {x y : NoteT} (hx : x ∈ l) (hy : y ∈ l) (he : x.1 = y.1) : x = y := by
  obtain ⟨i, hi, rfl⟩ := List.getElem_of_mem hx
  obtain ⟨j, hj, rfl⟩ := List.getElem_of_mem hy
  rw [List.pairwise_iff_getElem] at h
  rcases Nat.lt_trichotomy i j with c | c | c
  · have := h i j hi hj c; omega
  · subst c; rfl
  · have := h j i hj hi c; omega
theorem atN_mem {l : List NoteT} (h : l.Pairwise (fun a b => a.1 < b.1)) {x : NoteT} (hx : x ∈ l) : atN x.1 l = x := by
  rcases atN_spec x.1 l with ⟨h1, h2⟩ | ⟨_, h1⟩
  · exact asc_uniq h h1 hx h2
  · exact absurd rfl (h1 x hx)
theorem atN_none {l : List NoteT} {s : Int} (h : ∀ x ∈ l, x.1 ≠ s) : atN s l = nt0 := by
  rcases atN_spec s l with ⟨h1, h2⟩ | ⟨h1, _⟩
  · exact absurd h2 (h _ h1)
  · exact h1
/-- What is held after so many notes of the second list. -/
def mrg (a b : List NoteT) : Nat → List NoteT
  | 0 => a
  | i + 1 => if (atN (rN b i).1 a).1 = 0 then insN (rN b i) (mrg a b i) else mrg a b i
def conf (a : List NoteT) (n : NoteT) : Prop := (atN n.1 a).1 ≠ 0 ∧ atN n.1 a ≠ n
def mrgP (a b : List NoteT) : Prop := (NotesP a ∧ NotesP b) ∧ (∀ j, j < b.length → ¬ conf a (rN b j)) ∧ (mrg a b b.length).length ≤ 60
noncomputable def mrgM (a b : List NoteT) : List NoteT × Bool × Unit := @ite _ (mrgP a b) (Classical.propDecidable _) (mrg a b b.length, true, ()) ([], false, ())
theorem mrgM_pos {a b : List NoteT} (h : mrgP a b) : mrgM a b = (mrg a b b.length, true, ()) := if_pos h
theorem mrgM_neg {a b : List NoteT} (h : ¬ mrgP a b) : mrgM a b = ([], false, ()) := if_neg h
theorem mrg_len (a b : List NoteT) : ∀ i, a.length ≤ (mrg a b i).length ∧ (mrg a b i).length ≤ a.length + i ∧ (mrg a b i).length ≤ (mrg a b (i + 1)).length
  | 0 => by
    refine ⟨Nat.le_refl _, Nat.le_refl _, ?_⟩
    show a.length ≤ _
    simp only [mrg]
    split
    · rw [insN_len]; omega
    · exact Nat.le_refl _
  | i + 1 => by
    obtain ⟨h1, h2, h3⟩ := mrg_len a b i
    refine ⟨by omega, ?_, ?_⟩
    · simp only [mrg]
      split
      · rw [insN_len]; omega
      · omega
    · show (mrg a b (i + 1)).length ≤ (if (atN (rN b (i + 1)).1 a).1 = 0 then insN (rN b (i + 1)) (mrg a b (i + 1)) else mrg a b (i + 1)).length
      split
      · rw [insN_len]; omega
      · exact Nat.le_refl _
theorem mrg_mono (a b : List NoteT) (i j : Nat) (h : i ≤ j) : (mrg a b i).length ≤ (mrg a b j).length := by
  induction j with
  | zero => obtain rfl : i = 0 := by omega
            exact Nat.le_refl _
  | succ j ih =>
    by_cases e : i = j + 1
    · subst e; exact Nat.le_refl _
    · exact Nat.le_trans (ih (by omega)) (mrg_len a b j).2.2
theorem rN_lt {b : List NoteT} (hb : b.Pairwise (fun a b => a.1 < b.1)) {i j : Nat} (hj : j < i) (hi : i < b.length) : (rN b j).1 < (rN b i).1 := by
  rw [List.pairwise_iff_getElem] at hb
  unfold rN
  rw [rd_lt hi, rd_lt (Nat.lt_trans hj hi)]
  exact hb j i (by omega) hi hj
theorem mrg_inv {a b : List NoteT} (ha : NotesP a) (hb : NotesP b) : ∀ i, i ≤ b.length → (mrg a b i).Pairwise (fun x y => x.1 < y.1) ∧ (∀ x ∈ mrg a b i, NoteP x) ∧ (∀ x ∈ a, x ∈ mrg a b i) ∧ ∀ x ∈ mrg a b i, x ∈ a ∨ ∃ j, j < i ∧ x = rN b j
  | 0, _ => ⟨notesP_asc ha, ha.2.1, fun x hx => hx, fun x hx => .inl hx⟩
  | i + 1, hi => by
    obtain ⟨h1, h2, h3, h4⟩ := mrg_inv ha hb i (by omega)
    have hbm : rN b i ∈ b := rN_mem (by omega)
    simp only [mrg]
    split
    · rename_i hz
      have hnew : ∀ x ∈ mrg a b i, x.1 ≠ (rN b i).1 := by
        intro x hx he
        rcases h4 x hx with hxa | ⟨j, hj, rfl⟩
        · have := atN_mem (notesP_asc ha) hxa
          rw [he] at this
          rw [this] at hz
          have := (ha.2.1 x hxa).1
          omega
        · have := rN_lt (notesP_asc hb) hj (by omega)
          omega
      refine ⟨insN_pw _ _ h1 hnew, fun x hx => ?_, fun x hx => (mem_insN _ _).2 (.inr (h3 x hx)), fun x hx => ?_⟩
      · rcases (mem_insN _ _).1 hx with rfl | hx
        · exact hb.2.1 _ hbm
        · exact h2 x hx
      · rcases (mem_insN _ _).1 hx with rfl | hx
        · exact .inr ⟨i, by omega, rfl⟩
        · rcases h4 x hx with h | ⟨j, hj, h⟩
          · exact .inl h
          · exact .inr ⟨j, by omega, h⟩
    · refine ⟨h1, h2, h3, fun x hx => ?_⟩
      rcases h4 x hx with h | ⟨j, hj, h⟩
      · exact .inl h
      · exact .inr ⟨j, by omega, h⟩
/-- In what is held so far a note of the second list is found just where it is in the first. -/
theorem mrg_at {a b : List NoteT} (ha : NotesP a) (hb : NotesP b) (i : Nat) (hi : i < b.length) : atN (rN b i).1 (mrg a b i) = atN (rN b i).1 a := by
  obtain ⟨h1, h2, h3, h4⟩ := mrg_inv ha hb i (by omega)
  by_cases hex : ∃ x, x ∈ a ∧ x.1 = (rN b i).1
  · obtain ⟨x, hx, he⟩ := hex
    rw [← he, atN_mem h1 (h3 x hx), atN_mem (notesP_asc ha) hx]
  · have hna : ∀ x ∈ a, x.1 ≠ (rN b i).1 := fun x hx he => hex ⟨x, hx, he⟩
    rw [atN_none hna, atN_none]
    intro x hx he
    rcases h4 x hx with hxa | ⟨j, hj, rfl⟩
    · exact hna x hxa he
    · have := rN_lt (notesP_asc hb) hj hi
      omega
theorem mrgM_len (a b : List NoteT) : (mrgM a b).1.length ≤ 60 := by
  unfold mrgM
  split
  · rename_i h; exact h.2.2
  · simp
theorem notesP_nil : NotesP [] := ⟨by simp, fun x hx => (by cases hx), fun i _ hi => by simp at hi⟩
theorem mrgM_ok (a b : List NoteT) : NotesP (mrgM a b).1 := by
  unfold mrgM
  split
  · rename_i h
    obtain ⟨h1, h2, _⟩ := mrg_inv h.1.1 h.1.2 b.length (Nat.le_refl _)
    exact notesP_of h.2.2 h2 h1
  · exact notesP_nil
theorem asc_extN : ∀ (l1 l2 : List NoteT), l1.Pairwise (fun a b => a.1 < b.1) → l2.Pairwise (fun a b => a.1 < b.1) → (∀ x, x ∈ l1 ↔ x ∈ l2) → l1 = l2
  | [], [], _, _, _ => rfl
  | [], b :: l2, _, _, h => absurd ((h b).2 List.mem_cons_self) (by simp)
  | a :: l1, [], _, _, h => absurd ((h a).1 List.mem_cons_self) (by simp)
  | a :: l1, b :: l2, h1, h2, h => by
    rw [List.pairwise_cons] at h1 h2
    have hab : a = b := by
      rcases List.mem_cons.1 ((h a).1 List.mem_cons_self) with e | e
      · exact e
      · rcases List.mem_cons.1 ((h b).2 List.mem_cons_self) with e' | e'
        · exact e'.symm
        · have := h2.1 a e
          have := h1.1 b e'
          omega
    subst hab
    congr 1
    refine asc_extN l1 l2 h1.2 h2.2 (fun x => ⟨fun hx => ?_, fun hx => ?_⟩)
    · rcases List.mem_cons.1 ((h x).1 (List.mem_cons_of_mem _ hx)) with e | e
      · have := h1.1 x hx
        rw [e] at this
        omega
      · exact e
    · rcases List.mem_cons.1 ((h x).2 (List.mem_cons_of_mem _ hx)) with e | e
      · have := h2.1 x hx
        rw [e] at this
        omega
      · exact e
/-- No number tells two notes. -/
def agree (a b : List NoteT) : Prop := ∀ x ∈ a, ∀ y ∈ b, x.1 = y.1 → x = y
theorem agree_comm {a b : List NoteT} : agree a b → agree b a := fun h x hx y hy e => (h y hy x hx e.symm).symm
theorem agree_conf {a b : List NoteT} (ha : NotesP a) : agree a b ↔ ∀ j, j < b.length → ¬ conf a (rN b j) := by
  have hasc := notesP_asc ha
  constructor
  · intro h j hj hc
    have hm : rN b j ∈ b := rN_mem hj
    by_cases hex : ∃ x, x ∈ a ∧ x.1 = (rN b j).1
    · obtain ⟨x, hx, he⟩ := hex
      have := h x hx _ hm he
      have h8 := atN_mem hasc hx
      rw [he, this] at h8
      exact hc.2 h8
    · have := hc.1
      rw [atN_none (fun x hx he => hex ⟨x, hx, he⟩)] at this
      exact this rfl
  · intro h x hx y hy he
    obtain ⟨j, hj, rfl⟩ := mem_rN hy
    have hn := h j hj
    have h8 := atN_mem hasc hx
    rw [he] at h8
    by_cases c : x = rN b j
    · exact c
    · refine absurd ⟨?_, ?_⟩ hn
      · rw [h8]
        have := (ha.2.1 x hx).1
        omega
      · rw [h8]; exact c
/-- Where they agree: what is merged is what stands in one or the other. -/
theorem mem_mrg {a b : List NoteT} (ha : NotesP a) (hb : NotesP b) (hag : agree a b) (x : NoteT) : x ∈ mrg a b b.length ↔ x ∈ a ∨ x ∈ b := by
  obtain ⟨h1, h2, h3, h4⟩ := mrg_inv ha hb b.length (Nat.le_refl _)
  constructor
  · intro hx
    rcases h4 x hx with h | ⟨j, hj, rfl⟩
    · exact .inl h
    · exact .inr (rN_mem hj)
  · rintro (h | h)
    · exact h3 x h
    · obtain ⟨j, hj, rfl⟩ := mem_rN h
      have grow : ∀ i, j < i → i ≤ b.length → rN b j ∈ mrg a b i := by
        intro i
        induction i with
        | zero => intro h; omega
        | succ i ih =>
          intro hji hi
          by_cases e : j = i
          · subst e
            simp only [mrg]
            split
            · exact (mem_insN _ _).2 (.inl rfl)
            · rename_i hz
              by_cases hex : ∃ y, y ∈ a ∧ y.1 = (rN b j).1
              · obtain ⟨y, hy, he⟩ := hex
                have := hag y hy _ (rN_mem hj) he
                rw [← this]
                exact (mrg_inv ha hb j (by omega)).2.2.1 y hy
              · exact absurd (by rw [atN_none (fun y hy he => hex ⟨y, hy, he⟩)]; rfl) hz
          · have := ih (by omega) (by omega)
            simp only [mrg]
            split
            · exact (mem_insN _ _).2 (.inr this)
            · exact this
      exact grow b.length hj (Nat.le_refl _)
theorem mrg_asc {a b : List NoteT} (ha : NotesP a) (hb : NotesP b) : (mrg a b b.length).Pairwise (fun x y => x.1 < y.1) := (mrg_inv ha hb b.length (Nat.le_refl _)).1
theorem mrg_comm {a b : List NoteT} (ha : NotesP a) (hb : NotesP b) (hag : agree a b) : mrg a b b.length = mrg b a a.length :=
  asc_extN _ _ (mrg_asc ha hb) (mrg_asc hb ha) (fun x => by rw [mem_mrg ha hb hag, mem_mrg hb ha (agree_comm hag), or_comm])
/-- one note added to what is held -/
theorem mrg_one {a b : List NoteT} (h1 : NotesP a) (h2 : NotesP b) {i : Nat} (hi : i < b.length) (hlen : (mrg a b i).length ≤ 60) :
    (¬ conf a (rN b i) ∧ (mrg a b (i + 1)).length ≤ 60 → addM (mrg a b i) (rN b i) = (mrg a b (i + 1), true, ())) ∧ (¬ (¬ conf a (rN b i) ∧ (mrg a b (i + 1)).length ≤ 60) → addM (mrg a b i) (rN b i) = (mrg a b i, false, ())) := by
  obtain ⟨i1, i2, i3, i4⟩ := mrg_inv h1 h2 i (by omega)
  have hok := notesP_of hlen i2 i1
  have hno := h2.2.1 _ (rN_mem hi)
  have hf0 := hno.1
  unfold addM
  rw [if_pos ⟨hok, hno⟩, mrg_at h1 h2 i hi]
  have hm1 : mrg a b (i + 1) = if (atN (rN b i).1 a).1 = 0 then insN (rN b i) (mrg a b i) else mrg a b i := rfl
  generalize mrg a b (i + 1) = m1 at hm1
  generalize rN b i = n at *
  by_cases c : atN n.1 a = n
  · have hz : ¬ (atN n.1 a).1 = 0 := by rw [c]; omega
    rw [if_neg hz] at hm1
    subst hm1
    have hand : ¬ conf a n ∧ (mrg a b i).length ≤ 60 := ⟨fun hc => hc.2 c, hlen⟩
    exact ⟨fun _ => if_pos c, fun h => absurd hand h⟩
  · rw [if_neg c]
    by_cases hz : (atN n.1 a).1 = 0
    · rw [if_pos hz] at hm1
      have hl1 : m1.length = (mrg a b i).length + 1 := by rw [hm1, insN_len]
      by_cases hfull : 60 ≤ (mrg a b i).length
      · refine ⟨fun h => by have := h.2; omega, fun _ => if_pos (.inr hfull)⟩
      · refine ⟨fun _ => by rw [if_neg (fun h => h.elim (fun h => h hz) hfull), hm1], fun h => absurd ⟨fun hc => hc.1 hz, by omega⟩ h⟩
    · refine ⟨fun h => absurd ⟨hz, c⟩ h.1, fun _ => if_pos (.inl hz)⟩
end Go.Proofs.Ytcfbjloblbhdhaa.Eng
