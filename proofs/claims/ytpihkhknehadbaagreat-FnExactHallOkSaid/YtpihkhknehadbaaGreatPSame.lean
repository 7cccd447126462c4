/- The two checks of a hall say the same. No condition. -/
import Derived.Test.YtpihkhknehadbaaGreatPImpl4
namespace Go.Proofs.YtpihkhknehadbaaGreat.Eng
set_option linter.unusedVariables false
set_option linter.unusedSimpArgs false
theorem mem_atR {l : List CaseT} {p : Int} {n : Nat} {b : Int × Unit} : b ∈ atR l p n ↔ ∃ i, i < n ∧ (rdP cd0 l i).2.2.2.2.2.2.1 = p ∧ b = ((i : Int) + 1, ()) := by
  unfold atR
  simp only [List.mem_map, List.mem_filter, List.mem_range, decide_eq_true_eq]
  exact ⟨fun ⟨i, ⟨h1, h2⟩, h3⟩ => ⟨i, h1, h2, h3.symm⟩, fun ⟨i, h1, h2, h3⟩ => ⟨i, ⟨h1, h2⟩, h3.symm⟩⟩
theorem atR_asc (l : List CaseT) (p : Int) (n : Nat) : (atR l p n).Pairwise (fun a b => a.1 < b.1) := by
  unfold atR
  rw [List.pairwise_map]
  exact (List.Pairwise.filter _ List.pairwise_lt_range).imp (fun h => by simp only; omega)
theorem sort_at {l : List (Int × Unit)} {cs : List CaseT} {p : Int} (hn : l.Nodup) (h1 : ∀ b ∈ l, 1 ≤ b.1) : sortL l = atR cs p cs.length ↔ (∀ b ∈ l, b.1 ≤ cs.length) ∧ ∀ i, i < cs.length → ((((i : Int) + 1, ()) ∈ l) ↔ (rdP cd0 cs i).2.2.2.2.2.2.1 = p) := by
  constructor
  · intro h
    have hm : ∀ b, b ∈ l ↔ ∃ i, i < cs.length ∧ (rdP cd0 cs i).2.2.2.2.2.2.1 = p ∧ b = ((i : Int) + 1, ()) := fun b => by
      rw [← mem_atR, ← h, (sortL_perm l).mem_iff]
    refine ⟨fun b hb => ?_, fun i hi => ?_⟩
    · obtain ⟨i, hi, _, e⟩ := (hm b).1 hb
      rw [e]; simp only; omega
    · rw [hm]
      constructor
      · rintro ⟨j, hj, hp, e⟩
        have : i = j := by have := congrArg Prod.fst e; simp only at this; omega
        rw [this]; exact hp
      · intro hp; exact ⟨i, hi, hp, rfl⟩
  · rintro ⟨h2, h3⟩
    have hs := sortL_sorted l
    have ha := atR_asc cs p cs.length
    have hp : (sortL l).Perm (atR cs p cs.length) := by
      rw [List.perm_ext_iff_of_nodup ((sortL_perm l).nodup_iff.2 hn) (ha.imp (fun h e => by rw [e] at h; omega))]
      intro b
      rw [(sortL_perm l).mem_iff, mem_atR]
      constructor
      · intro hb
        have := h1 b hb
        have := h2 b hb
        have e : b = (((b.1 - 1).toNat : Int) + 1, ()) := by
          obtain ⟨b, u⟩ := b
          simp only at *
          congr 1; omega
        refine ⟨(b.1 - 1).toNat, by omega, ?_, e⟩
        rw [← h3 _ (by omega), ← e]; exact hb
      · rintro ⟨i, hi, hp, e⟩
        rw [e, h3 i hi]; exact hp
    refine hp.eq_of_pairwise (le := fun a b => a.1 ≤ b.1) (fun a b _ _ h1 h2 => ?_) hs (ha.imp (fun h => by omega))
    obtain ⟨a, _⟩ := a
    obtain ⟨b, _⟩ := b
    simp only at h1 h2
    congr 1; omega
theorem bool_place {p : Int} (h1 : 1 ≤ p) (h2 : p ≤ 7) : p = 1 ∨ p = 2 ∨ p = 3 ∨ p = 4 ∨ p = 5 ∨ p = 6 ∨ p = 7 := by omega
theorem case_same {x : HallT} {e : CaseT} : IsCaseP x e ↔ TagP (e.1, e.2.1, e.2.2.1, ()) ∧ (1 ≤ e.2.2.2.1 ∧ e.2.2.2.1 ≤ x.2.2.2.2.2.2.2.2.2.2.2.2.2.2.2.1.length) ∧ (1 ≤ e.2.2.2.2.1 ∧ e.2.2.2.2.1 ≤ 60) ∧ (0 ≤ e.2.2.2.2.2.1 ∧ e.2.2.2.2.2.1 ≤ 5) ∧ (1 ≤ e.2.2.2.2.2.2.1 ∧ e.2.2.2.2.2.2.1 ≤ 7) ∧
  (if e.2.2.2.2.2.2.1 = 1 then e.2.2.2.2.2.2.2.1 = 0 ∧ e.2.2.2.2.2.2.2.2.1 = 0 ∧ e.2.2.2.2.2.2.2.2.2.1 = 0 else ScreenP (e.2.2.2.2.2.2.2.1, e.2.2.2.2.2.2.2.2.1, e.2.2.2.2.2.2.2.2.2.1, ()) ∧ e.2.2.2.2.2.2.2.2.1 ≤ x.1) ∧
  (e.2.2.2.2.2.2.2.2.2.1 ≠ 1 → e.2.2.2.2.2.2.1 ≠ 3 ∧ e.2.2.2.2.2.2.1 ≠ 4 ∧ e.2.2.2.2.2.2.1 ≠ 5 ∧ e.2.2.2.2.2.2.1 ≠ 6) ∧ ¬ (e.2.2.2.2.2.2.1 = 2 ∧ e.2.2.2.2.2.2.2.2.2.1 = 2) ∧ (e.2.2.2.2.2.2.1 = 6 → (rdP fd0 x.2.2.2.2.2.2.2.2.2.2.2.2.2.2.2.1 (natI (e.2.2.2.1 - 1))).2.2.2.1 = true) := by
  unfold IsCaseP
  generalize (rdP fd0 x.2.2.2.2.2.2.2.2.2.2.2.2.2.2.2.1 (natI (e.2.2.2.1 - 1))).2.2.2.1 = pF
  generalize TagP (e.1, e.2.1, e.2.2.1, ()) = pG
  generalize ScreenP (e.2.2.2.2.2.2.2.1, e.2.2.2.2.2.2.2.2.1, e.2.2.2.2.2.2.2.2.2.1, ()) = pH
  generalize e.2.2.2.2.2.2.1 = p
  generalize e.2.2.2.2.2.2.2.2.2.1 = v
  by_cases h1 : p = 1
  · subst h1; simp
  by_cases h2 : p = 2
  · subst h2; simp
  by_cases h3 : p = 3
  · subst h3; simp
  by_cases h4 : p = 4
  · subst h4; simp
  by_cases h5 : p = 5
  · subst h5; simp
  by_cases h6 : p = 6
  · subst h6; simp
  simp [h1, h2, h3, h4, h5, h6]; grind
theorem hall_same (x : HallT) : HallI x ↔ HallP x := by
  unfold HallI HallP
  refine and_congr_right fun _ => and_congr_right fun _ => and_congr_right fun _ => and_congr_right fun hB => and_congr_right fun hL => and_congr_right fun hS => and_congr_right fun _ => ?_
  have b1 : (beltB x.2.2.2.2.2.2.2.1).Nodup := by
    unfold beltB
    rw [nodup_rd (d := (0, 0, 0, ()))]
    intro i hi j hj e
    exact (hB.2.2.2 i hi).2.2.2.1 j hj (Prod.mk.injEq _ _ _ _ ▸ e : _ ∧ _).1
  have b2 : ∀ b ∈ beltB x.2.2.2.2.2.2.2.1, 1 ≤ b.1 := by
    intro b hb
    obtain ⟨y, hy, e⟩ := List.mem_map.1 hb
    obtain ⟨i, hi, e2⟩ := List.getElem_of_mem hy
    have := (hB.2.2.2 i hi).1
    rw [rd_lt hi, e2] at this
    rw [← e]; exact this
  have hnd : (nz x.2.2.2.2.2.2.2.2.1 ++ inCh x.2.2.2.2.2.2.2.2.2.2.1).Nodup := hL.2.2.2.2.2.2.2.1
  have hge : ∀ b ∈ nz x.2.2.2.2.2.2.2.2.1 ++ inCh x.2.2.2.2.2.2.2.2.2.2.1, 1 ≤ b.1 := hL.2.2.2.2.2.2.1
  have k1 : (bagsS x.2.2.2.2.2.2.2.2.2.2.2.2.2.1).Nodup := hS.2.2.2
  have k2 : ∀ b ∈ bagsS x.2.2.2.2.2.2.2.2.2.2.2.2.2.1, 1 ≤ b.1 := by
    intro b hb
    obtain ⟨l, hl, h⟩ := List.mem_flatMap.1 hb
    obtain ⟨y, hy, e⟩ := List.mem_map.1 h
    have := ((hS.2.2.1 l hl).2 y hy).1
    rw [← e]; exact this
  obtain ⟨t1, t2, _⟩ := List.nodup_append.1 hnd
  rw [sort_at b1 b2, sort_at t1 (fun b hb => hge b (List.mem_append_left _ hb)), sort_at t2 (fun b hb => hge b (List.mem_append_right _ hb)), sort_at k1 k2]
  have m1 : ∀ a : Int, ((a, ()) ∈ beltB x.2.2.2.2.2.2.2.1) ↔ ∃ y, y ∈ x.2.2.2.2.2.2.2.1 ∧ y.1 = a := fun a => by
    unfold beltB
    rw [List.mem_map]
    exact ⟨fun ⟨y, h1, h2⟩ => ⟨y, h1, (Prod.mk.injEq _ _ _ _ ▸ h2 : _ ∧ _).1⟩, fun ⟨y, h1, h2⟩ => ⟨y, h1, by rw [h2]⟩⟩
  have m3 : ∀ i : Nat, ((((i : Int) + 1, ()) ∈ nz x.2.2.2.2.2.2.2.2.1)) ↔ ((i : Int) + 1, ()) ∈ x.2.2.2.2.2.2.2.2.1 := fun i => by
    unfold nz
    rw [List.mem_filter]
    exact ⟨fun h => h.1, fun h => ⟨h, by simp only [decide_eq_true_eq]; omega⟩⟩
  have m4 : ∀ a : Int, ((a, ()) ∈ inCh x.2.2.2.2.2.2.2.2.2.2.1) ↔ ∃ c, c ∈ x.2.2.2.2.2.2.2.2.2.2.1 ∧ (a, ()) ∈ c.2.2.1 := fun a => by
    unfold inCh
    rw [List.mem_flatMap]
  have m5 : ∀ a : Int, ((a, ()) ∈ bagsS x.2.2.2.2.2.2.2.2.2.2.2.2.2.1) ↔ ∃ l, l ∈ x.2.2.2.2.2.2.2.2.2.2.2.2.2.1 ∧ ∃ y, y ∈ l.1 ∧ y.1 = a := fun a => by
    unfold bagsS
    rw [List.mem_flatMap]
    refine exists_congr fun l => and_congr_right fun _ => ?_
    unfold bagsK
    rw [List.mem_map]
    exact ⟨fun ⟨y, h1, h2⟩ => ⟨y, h1, (Prod.mk.injEq _ _ _ _ ▸ h2 : _ ∧ _).1⟩, fun ⟨y, h1, h2⟩ => ⟨y, h1, by rw [h2]⟩⟩
  have n1 : (∀ b ∈ beltB x.2.2.2.2.2.2.2.1, b.1 ≤ x.2.2.2.2.2.2.2.2.2.2.2.2.2.2.2.2.1.length) ↔ ∀ y ∈ x.2.2.2.2.2.2.2.1, y.1 ≤ x.2.2.2.2.2.2.2.2.2.2.2.2.2.2.2.2.1.length := by
    unfold beltB
    rw [List.forall_mem_map]
  have n3 : (∀ b ∈ nz x.2.2.2.2.2.2.2.2.1, b.1 ≤ x.2.2.2.2.2.2.2.2.2.2.2.2.2.2.2.2.1.length) ↔ ∀ y ∈ x.2.2.2.2.2.2.2.2.1, y.1 ≤ x.2.2.2.2.2.2.2.2.2.2.2.2.2.2.2.2.1.length := by
    unfold nz
    refine ⟨fun h y hy => ?_, fun h y hy => h y (List.mem_filter.1 hy).1⟩
    by_cases e : y.1 = 0
    · rw [e]; omega
    · exact h y (List.mem_filter.2 ⟨hy, by simpa using e⟩)
  have n4 : (∀ b ∈ inCh x.2.2.2.2.2.2.2.2.2.2.1, b.1 ≤ x.2.2.2.2.2.2.2.2.2.2.2.2.2.2.2.2.1.length) ↔ ∀ c ∈ x.2.2.2.2.2.2.2.2.2.2.1, ∀ y ∈ c.2.2.1, y.1 ≤ x.2.2.2.2.2.2.2.2.2.2.2.2.2.2.2.2.1.length := by
    unfold inCh
    exact ⟨fun h c hc y hy => h y (List.mem_flatMap.2 ⟨c, hc, hy⟩), fun h y hy => let ⟨c, hc, hy⟩ := List.mem_flatMap.1 hy; h c hc y hy⟩
  have n5 : (∀ b ∈ bagsS x.2.2.2.2.2.2.2.2.2.2.2.2.2.1, b.1 ≤ x.2.2.2.2.2.2.2.2.2.2.2.2.2.2.2.2.1.length) ↔ ∀ l ∈ x.2.2.2.2.2.2.2.2.2.2.2.2.2.1, ∀ y ∈ l.1, y.1 ≤ x.2.2.2.2.2.2.2.2.2.2.2.2.2.2.2.2.1.length := by
    unfold bagsS
    refine ⟨fun h c hc y hy => h (y.1, ()) (List.mem_flatMap.2 ⟨c, hc, List.mem_map.2 ⟨y, hy, rfl⟩⟩), fun h y hy => ?_⟩
    obtain ⟨c, hc, hy⟩ := List.mem_flatMap.1 hy
    obtain ⟨z, hz, e⟩ := List.mem_map.1 hy
    rw [← e]; exact h c hc z hz
  rw [n1, n3, n4, n5]
  simp only [m1, m3, m4, m5, case_same, CaseP]
  constructor
  · rintro ⟨⟨h1, h2⟩, h3, h4, ⟨h5, h6⟩, ⟨h7, h8⟩, ⟨h9, h10⟩, h11, h12⟩
    refine ⟨h1, h3, h2, fun i hi => ?_, h5, h7, h9, h11⟩
    obtain ⟨⟨c1, c2, c3, c4, c5, c6, c7, c8, c9⟩, c10⟩ := h4 i hi
    exact ⟨c1, c2, c3, c4, c5, c10, c6, c7, c8, c9, h6 i hi, h8 i hi, h10 i hi, h12 i hi⟩
  · rintro ⟨h1, h3, h2, h4, h5, h7, h9, h11⟩
    refine ⟨⟨h1, h2⟩, h3, fun i hi => ?_, ⟨h5, fun i hi => (h4 i hi).2.2.2.2.2.2.2.2.2.2.1⟩, ⟨h7, fun i hi => (h4 i hi).2.2.2.2.2.2.2.2.2.2.2.1⟩, ⟨h9, fun i hi => (h4 i hi).2.2.2.2.2.2.2.2.2.2.2.2.1⟩, ⟨h11, fun i hi => (h4 i hi).2.2.2.2.2.2.2.2.2.2.2.2.2⟩⟩
    obtain ⟨c1, c2, c3, c4, c5, c10, c6, c7, c8, c9, _⟩ := h4 i hi
    exact ⟨⟨c1, c2, c3, c4, c5, c6, c7, c8, c9⟩, c10⟩
end Go.Proofs.YtpihkhknehadbaaGreat.Eng
