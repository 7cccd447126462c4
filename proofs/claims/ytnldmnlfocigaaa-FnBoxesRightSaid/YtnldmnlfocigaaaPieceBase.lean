/- Pieces: what the program and the reference ask of a list of them. No condition. -/
import Derived.Test.YtnldmnlfocigaaaEvMore
import Derived.Test.YtnldmnlfocigaaaF33
import Derived.Test.YtnldmnlfocigaaaF35
namespace Go.Proofs.Ytnldmnlfocigaaa.F
open Go.RowKit Go.Proofs.YtnldmnlfocigaaaW.PrintWords Go.Proofs.YtnldmnlfocigaaaW.PrintLast Go.Proofs.Ytnldmnlfocigaaa.Opn
set_option linter.unusedVariables false
set_option linter.unusedSimpArgs false
theorem first_fail' (n : Nat) (P : Nat → Prop) (h : ¬ ∀ j, j < n → P j) : ∃ m, m < n ∧ ¬ P m ∧ ∀ j, j < m → P j := by
  induction n with
  | zero => exact absurd (fun j hj => absurd hj (Nat.not_lt_zero _)) h
  | succ n ih =>
    by_cases hn : ∀ j, j < n → P j
    · refine ⟨n, Nat.lt_succ_self n, fun hp => h (fun j hj => ?_), hn⟩
      rcases Nat.lt_succ_iff_lt_or_eq.1 hj with h1 | rfl
      · exact hn j h1
      · exact hp
    · obtain ⟨m, h1, h2, h3⟩ := ih hn
      exact ⟨m, by omega, h2, h3⟩
/-- Sorted and without equal neighbours: no number stands twice. -/
theorem compact_nodup (l : List Int) : (Go.Lib.compact (l.mergeSort fun x y => decide (x ≤ y))).length = l.length ↔ l.Nodup := by
  have hperm := List.mergeSort_perm l (fun x y => decide (x ≤ y))
  have hsort : (l.mergeSort fun x y => decide (x ≤ y)).Pairwise (fun a b => decide (a ≤ b) = true) := List.pairwise_mergeSort (fun a b c h1 h2 => by simp at *; omega) (fun a b => by simp; omega) l
  rw [← hperm.nodup_iff, ← hperm.length_eq]
  generalize (l.mergeSort fun x y => decide (x ≤ y)) = s at hsort
  rw [List.pairwise_iff_getElem] at hsort
  have hget : ∀ j (h : j < s.length), s.toArray[j]! = s[j] := fun j h => by simp [getElem!_pos, h]
  unfold Go.Lib.compact Go.Lib.compactUpTo
  rw [List.length_map]
  constructor
  · intro h
    have h' : ((List.range s.length).filter (Go.Lib.keeps s.toArray)).length = (List.range s.length).length := by rw [h]; simp
    rw [List.length_filter_eq_length_iff] at h'
    unfold List.Nodup
    rw [List.pairwise_iff_getElem]
    intro i j hi hj hij heq
    have hk := h' j (List.mem_range.2 hj)
    simp only [Go.Lib.keeps, decide_eq_true_eq] at hk
    rcases hk with hk | hk
    · omega
    · rw [hget j hj, hget (j - 1) (by omega)] at hk
      have h1 : s[i] ≤ s[j - 1] := by
        by_cases e : i = j - 1
        · subst e; exact Int.le_refl _
        · simpa using hsort i (j - 1) hi (by omega) (by omega)
      have h2 : s[j - 1] ≤ s[j] := by simpa using hsort (j - 1) j (by omega) hj (by omega)
      omega
  · intro h
    unfold List.Nodup at h
    rw [List.pairwise_iff_getElem] at h
    rw [List.filter_eq_self.2 (fun j hj => ?_), List.length_range]
    have hj := List.mem_range.1 hj
    simp only [Go.Lib.keeps, decide_eq_true_eq]
    by_cases e : j = 0
    · exact .inl e
    · refine .inr ?_
      rw [hget j hj, hget (j - 1) (by omega)]
      exact fun he => h (j - 1) j (by omega) hj (by omega) he.symm
theorem areDifferent_eq (l : List Int) (hl : l.length ≤ 1048576) : impl_areDifferent.f l = some (decide l.Nodup) := by
  have h := compact_nodup l
  unfold impl_areDifferent.f slices_Clone_int_int.f slices_Sort_int_int.f slices_Compact_int_int.f
  simp only [Option.bind_some, List.nil_append, List.length_nil, Nat.zero_add]
  rw [if_pos (by omega)]
  simp only [Option.bind_some]
  rw [if_pos (by omega)]
  simp only [Option.bind_some, Option.some.injEq]
  by_cases hd : l.Nodup
  · rw [h.2 hd]; simp [hd]
  · have : (Go.Lib.compact (l.mergeSort fun x y => decide (x ≤ y))).length ≠ l.length := fun he => hd (h.1 he)
    rw [decide_eq_false hd]
    simp only [beq_eq_false_iff_ne, ne_eq]
    omega
abbrev Pc := S80
theorem rdP_nat (l : List Pc) (i : Nat) : rd_T80 l (i : Int) = l.getD i z80 := by simp [rd_T80]
def pOk (x : Pc) : Prop := 1 ≤ x.f0 ∧ 1 ≤ x.f1 ∧ x.f1 ≤ 60 ∧ 0 ≤ x.f2 ∧ x.f2 ≤ 5
instance (x : Pc) : Decidable (pOk x) := by unfold pOk; infer_instance
/-- At most forty, each one right, no bag twice. -/
def PP (l : List Pc) : Prop := l.length ≤ 40 ∧ (∀ j, j < l.length → pOk (l.getD j z80)) ∧ (l.map (·.f0)).Nodup
instance (l : List Pc) : Decidable (PP l) := by unfold PP; infer_instance
theorem PP_good (l : List Pc) : ((∀ j, j < l.length → pOk (l.getD j z80)) ∧ (l.map (·.f0)).Nodup) ↔ ∀ j, j < l.length → (pOk (l.getD j z80) ∧ ∀ i, i < j → (l.getD i z80).f0 ≠ (l.getD j z80).f0) := by
  have hg : ∀ j (h : j < l.length), (l.map (·.f0))[j]'(by simpa using h) = (l.getD j z80).f0 := fun j h => by simp [List.getD_eq_getElem?_getD, h]
  unfold List.Nodup
  rw [List.pairwise_iff_getElem]
  constructor
  · rintro ⟨h1, h2⟩ j hj
    refine ⟨h1 j hj, fun i hij => ?_⟩
    have := h2 i j (by simp; omega) (by simpa using hj) hij
    rwa [hg i (by omega), hg j hj] at this
  · intro h
    refine ⟨fun j hj => (h j hj).1, fun i j hi hj hij => ?_⟩
    have hj' : j < l.length := by simpa using hj
    have := (h j hj').2 i hij
    rwa [← hg i (by omega), ← hg j hj'] at this
theorem ev_impl_PiecesOk (l : List Pc) (hl : l.length ≤ 1048576) : Ev (fun k => impl_PiecesOk.f k l) (decide (PP l)) := by
  unfold impl_PiecesOk.f
  have step : ∀ i, i < l.length → pOk (l.getD i z80) → ∀ r, Ev (fun k => impl_PiecesOk.l0 k l ((l.take (i + 1)).map (·.f0)) l (l.length : Int) ((i + 1 : Nat) : Int)) r → Ev (fun k => impl_PiecesOk.l0 k l ((l.take i).map (·.f0)) l (l.length : Int) (i : Int)) r := by
    intro i hi hp r ih
    obtain ⟨h1, h2, h3, h4, h5⟩ := hp
    refine Ev.step (fun k => impl_PiecesOk.l0.eq_2 ..) (Ev.pos (by omega) (Ev.pos (by omega) (Ev.pos (by omega) ?_)))
    simp only [rdP_nat, wrap_succ i (by omega)]
    refine Ev.neg (by omega) (Ev.neg (by omega) (Ev.neg (by omega) (Ev.neg (by omega) (Ev.neg (by omega) (Ev.pos (by simp; omega) ?_)))))
    have ht : (l.take (i + 1)).map (·.f0) = (l.take i).map (·.f0) ++ [(l.getD i z80).f0] := by
      rw [List.take_succ_eq_append_getElem hi, List.map_append]
      simp [List.getD_eq_getElem?_getD, hi]
    rw [ht] at ih
    exact ih
  have h0 : ([] : List Int) = (l.take 0).map (·.f0) := by simp
  rw [h0]
  by_cases hall : ∀ j, j < l.length → pOk (l.getD j z80)
  · refine up_state (fun k s i => impl_PiecesOk.l0 k l s l (l.length : Int) i) l.length (fun i => (l.take i).map (·.f0)) _ ?_ (fun i hi ih => step i hi (hall i hi) _ ih) 0 (by omega)
    refine Ev.step (fun k => impl_PiecesOk.l0.eq_2 ..) (Ev.neg (by omega) ?_)
    simp only [List.take_length]
    rw [areDifferent_eq _ (by simpa using hl)]
    refine Ev.ite (fun h => Ev.bs (Ev.some_ ?_)) (fun h => Ev.some_ ?_)
    · have : PP l ↔ (l.map (·.f0)).Nodup := ⟨fun h => h.2.2, fun h' => ⟨by omega, hall, h'⟩⟩
      exact (decide_eq_decide.2 this).symm
    · exact (decide_eq_false (fun hp : PP l => by have := hp.1; omega)).symm
  · rw [decide_eq_false (fun hp : PP l => hall hp.2.1)]
    obtain ⟨m, hm, hb, hlt⟩ := first_fail' _ _ hall
    refine up_state (fun k s i => impl_PiecesOk.l0 k l s l (l.length : Int) i) m (fun i => (l.take i).map (·.f0)) _ ?_ (fun i hi ih => step i (by omega) (hlt i hi) _ ih) 0 (by omega)
    refine Ev.step (fun k => impl_PiecesOk.l0.eq_2 ..) (Ev.pos (by omega) (Ev.pos (by omega) (Ev.pos (by omega) ?_)))
    simp only [rdP_nat]
    refine Ev.ite (fun _ => Ev.now _) (fun c1 => Ev.ite (fun _ => Ev.now _) (fun c2 => Ev.ite (fun _ => Ev.now _) (fun c3 => Ev.ite (fun _ => Ev.now _) (fun c4 => Ev.ite (fun _ => Ev.now _) (fun c5 => ?_)))))
    exact absurd ⟨by omega, by omega, by omega, by omega, by omega⟩ hb
theorem l01In_eqB (a b c : Int) : spec_l01In.f a b c = some (decide (b ≤ a ∧ a ≤ c)) := by
  unfold spec_l01In.f
  by_cases h : a ≥ b
  · rw [if_pos h]; simp [h]
  · rw [if_neg h]; simp [h]
theorem ev_spec_PiecesOk (l : List Pc) (hl : l.length ≤ 1048576) : Ev (fun k => spec_PiecesOk.f k l) (decide (PP l)) := by
  unfold spec_PiecesOk.f
  refine Ev.ite (fun h => Ev.some_ (decide_eq_false (fun hp : PP l => by have := hp.1; omega)).symm) (fun hn => ?_)
  have hPP : PP l ↔ ∀ j, j < l.length → (pOk (l.getD j z80) ∧ ∀ i, i < j → (l.getD i z80).f0 ≠ (l.getD j z80).f0) := by
    rw [← PP_good]
    exact ⟨fun h => h.2, fun h => ⟨by omega, h⟩⟩
  -- behind the look at the piece itself
  have head : ∀ i, i < l.length → pOk (l.getD i z80) → ∀ r, Ev (fun k => spec_PiecesOk.l1 k l (i : Int) 0) r → Ev (fun k => spec_PiecesOk.l0 k l (i : Int)) r := by
    intro i hi hp r ih
    obtain ⟨h1, h2, h3, h4, h5⟩ := hp
    refine Ev.step (fun k => spec_PiecesOk.l0.eq_2 ..) (Ev.pos (by omega) (Ev.pos (by omega) ?_))
    simp only [rdP_nat, l01In_eqB]
    refine Ev.neg (by omega) (Ev.bs (Ev.pos (decide_eq_true ⟨h2, h3⟩) (Ev.bs ?_)))
    exact Ev.step (fun k => spec_PiecesOk.j1.eq_2 ..) (Ev.neg (by rw [decide_eq_true (show _ ∧ _ from ⟨h4, h5⟩)]; simp) ih)
  have row : ∀ i, i < l.length → ∀ k0, k0 < i → (l.getD k0 z80).f0 ≠ (l.getD i z80).f0 → ∀ r, Ev (fun k => spec_PiecesOk.l1 k l (i : Int) ((k0 + 1 : Nat) : Int)) r → Ev (fun k => spec_PiecesOk.l1 k l (i : Int) (k0 : Int)) r := by
    intro i hi k0 hk hne r ih
    refine Ev.step (fun k => spec_PiecesOk.l1.eq_2 ..) (Ev.pos (by omega) (Ev.pos (by omega) (Ev.pos (by omega) (Ev.pos (by omega) (Ev.pos (by omega) ?_)))))
    simp only [rdP_nat, wrap_succ k0 (by omega)]
    exact Ev.neg hne ih
  have step : ∀ i, i < l.length → (pOk (l.getD i z80) ∧ ∀ k0, k0 < i → (l.getD k0 z80).f0 ≠ (l.getD i z80).f0) → ∀ r, Ev (fun k => spec_PiecesOk.l0 k l ((i + 1 : Nat) : Int)) r → Ev (fun k => spec_PiecesOk.l0 k l (i : Int)) r := by
    intro i hi hp r ih
    refine head i hi hp.1 r ?_
    refine up_loop (fun k j => spec_PiecesOk.l1 k l (i : Int) j) i (fun _ => r) ?_ (fun j hj ihj => row i hi j hj (hp.2 j hj) r ihj) 0 (by omega)
    refine Ev.step (fun k => spec_PiecesOk.l1.eq_2 ..) (Ev.neg (by omega) ?_)
    simp only [wrap_succ i (by omega)]
    exact ih
  by_cases hall : ∀ j, j < l.length → (pOk (l.getD j z80) ∧ ∀ i, i < j → (l.getD i z80).f0 ≠ (l.getD j z80).f0)
  · rw [decide_eq_true (hPP.2 hall)]
    refine up_loop (fun k i => spec_PiecesOk.l0 k l i) l.length (fun _ => true) ?_ (fun i hi ih => step i hi (hall i hi) _ ih) 0 (by omega)
    exact Ev.step (fun k => spec_PiecesOk.l0.eq_2 ..) (Ev.neg (by omega) (Ev.now _))
  · rw [decide_eq_false (fun hp => hall (hPP.1 hp))]
    obtain ⟨m, hm, hb, hlt⟩ := first_fail' _ _ hall
    refine up_loop (fun k i => spec_PiecesOk.l0 k l i) m (fun _ => false) ?_ (fun i hi ih => step i (by omega) (hlt i hi) _ ih) 0 (by omega)
    by_cases hp : pOk (l.getD m z80)
    · refine head m hm hp _ ?_
      have hall2 : ¬ ∀ j, j < m → (l.getD j z80).f0 ≠ (l.getD m z80).f0 := fun h => hb ⟨hp, h⟩
      obtain ⟨q, hq, hqb, hqlt⟩ := first_fail' _ _ hall2
      refine up_loop (fun k j => spec_PiecesOk.l1 k l (m : Int) j) q (fun _ => false) ?_ (fun j hj ihj => row m hm j (by omega) (hqlt j hj) _ ihj) 0 (by omega)
      refine Ev.step (fun k => spec_PiecesOk.l1.eq_2 ..) (Ev.pos (by omega) (Ev.pos (by omega) (Ev.pos (by omega) (Ev.pos (by omega) (Ev.pos (by omega) ?_)))))
      simp only [rdP_nat]
      exact Ev.pos (by simpa using hqb) (Ev.now _)
    · refine Ev.step (fun k => spec_PiecesOk.l0.eq_2 ..) (Ev.pos (by omega) (Ev.pos (by omega) ?_))
      simp only [rdP_nat, l01In_eqB]
      have fin : ∀ x, x = true → Ev (fun k => spec_PiecesOk.j1 k l (m : Int) x) false := fun x e => Ev.step (fun k => spec_PiecesOk.j1.eq_2 ..) (Ev.pos e (Ev.now _))
      refine Ev.ite (fun c1 => fin _ rfl) (fun c1 => Ev.bs (Ev.ite (fun c2 => Ev.bs (fin _ ?_)) (fun c2 => fin _ rfl)))
      have c2' := of_decide_eq_true c2
      simp only [Bool.not_eq_true', decide_eq_false_iff_not]
      intro c3
      exact hp ⟨by omega, c2'.1, c2'.2, c3.1, c3.2⟩
end Go.Proofs.Ytnldmnlfocigaaa.F
