/- OffList of the program and of the reference: what they compute. No condition. -/
import Derived.Test.YtppojihmllmgnaaNoteLast
import Derived.Test.YtppojihmllmgnaaF44
import Derived.Test.YtppojihmllmgnaaF42
import Derived.Test.YtppojihmllmgnaaF43
namespace Go.Proofs.Ytppojihmllmgnaa.F
open Go.RowKit Go.Proofs.YtppojihmllmgnaaW.PrintWords Go.Proofs.YtppojihmllmgnaaW.PrintLast Go.Proofs.Ytppojihmllmgnaa.Opn
set_option linter.unusedVariables false
set_option linter.unusedSimpArgs false
def offl (l : List Nt) (fl : Int) (bags : List Int) : List Int := if notesOk l = true ∧ bags.length ≤ 1000 then bags.filter (fun x => !mayFly l x fl) else []
theorem offl_len (l : List Nt) (fl : Int) (bags : List Int) : (offl l fl bags).length ≤ 1000 := by
  unfold offl
  split
  · rename_i h
    exact Nat.le_trans (List.length_filter_le _ _) h.2
  · exact Nat.zero_le _
theorem Ev.all_some {α : Type} (g : Nat → Int → Option α) (v : Int → α) : ∀ xs : List Int, (∀ x ∈ xs, Ev (fun k => g k x) (v x)) → ∃ K, ∀ k, K ≤ k → ∀ x ∈ xs, g k x = some (v x)
  | [], _ => ⟨0, fun _ _ x hx => absurd hx (by simp)⟩
  | y :: ys, h => by
    obtain ⟨K1, h1⟩ := Ev.all_some g v ys (fun x hx => h x (List.mem_cons_of_mem _ hx))
    obtain ⟨K2, h2⟩ := h y List.mem_cons_self
    refine ⟨max K1 K2, fun k hk x hx => ?_⟩
    rcases List.mem_cons.1 hx with rfl | hx
    · exact h2 k (by omega)
    · exact h1 k (by omega) x hx
theorem ev_impl_OffList (l : List Nt) (fl : Int) (bags : List Int) (hm : l.length ≤ maxLen) : Ev (fun k => impl_OffList.f k l fl bags) (offl l fl bags) := by
  unfold impl_OffList.f offl
  refine Ev.bd (ev_impl_NotesOk l hm) (Ev.ite (fun h => ?_) (fun h => ?_))
  · rw [if_pos h]
    obtain ⟨K, hK⟩ := Ev.all_some (fun k x => impl_MayFly.f k l x fl) (fun x => mayFly l x fl) bags (fun x _ => ev_impl_MayFly l x fl hm)
    refine Ev.from_ K (fun k hk => ?_)
    have hk := hK k hk
    rw [if_pos (List.all_eq_true.2 (fun x hx => by rw [hk x hx]; rfl))]
    congr 1
    refine List.filter_congr (fun x hx => ?_)
    unfold impl_OffList.v
    rw [hk x hx]
    rfl
  · rw [if_neg h]
    exact Ev.now _
theorem ev_spec_OffList (l : List Nt) (fl : Int) (bags : List Int) (hm : l.length ≤ maxLen) (hb : bags.length ≤ 1048576) : Ev (fun k => spec_OffList.f k l fl bags) (offl l fl bags) := by
  unfold spec_OffList.f offl
  by_cases h : notesOk l = true ∧ bags.length ≤ 1000
  · rw [if_pos h]
    refine up_state (fun k s i => spec_OffList.l0 k l fl bags s i) bags.length (fun i => (bags.take i).filter (fun x => !mayFly l x fl)) _ ?_ ?_ 0 (by omega)
    · refine Ev.step (fun k => spec_OffList.l0.eq_2 ..) (Ev.neg (by omega) (Ev.step (fun k => spec_OffList.j1.eq_2 ..) (Ev.neg (by simp) (Ev.some_ ?_))))
      rw [List.take_length]
    · intro i hi ih
      refine Ev.step (fun k => spec_OffList.l0.eq_2 ..) (Ev.pos (by omega) (Ev.pos (by omega) (Ev.bd (ev_spec_NotesOk l) (Ev.step (fun k => spec_OffList.j1.eq_2 ..) (Ev.pos h.1 (Ev.pos (by omega) (Ev.pos (by omega) (Ev.bd (ev_spec_MayFly l _ _ hm) ?_))))))))
      simp only [rd_natI, wrap_succ i (by omega)]
      have hlen : ((bags.take i).filter (fun x => !mayFly l x fl)).length ≤ 1000 := Nat.le_trans (List.length_filter_le _ _) (by rw [List.length_take]; omega)
      have ht : bags.take (i + 1) = bags.take i ++ [bags.getD i 0] := by
        rw [List.take_succ_eq_append_getElem hi, List.getD_eq_getElem?_getD, List.getElem?_eq_getElem hi]; rfl
      simp only [ht, List.filter_append] at ih
      generalize bags.getD i 0 = y at ih ⊢
      refine Ev.ite (fun c => ?_) (fun c => Ev.pos (by omega) ?_)
      · rw [show [y].filter (fun x => !mayFly l x fl) = [] by simp [c], List.append_nil] at ih
        exact ih
      · rw [show [y].filter (fun x => !mayFly l x fl) = [y] by simp [c]] at ih
        exact ih
  · rw [if_neg h]
    refine Ev.step (fun k => spec_OffList.l0.eq_2 ..) (Ev.ite (fun h0 => Ev.ite (fun h1 => Ev.bd (ev_spec_NotesOk l) (Ev.step (fun k => spec_OffList.j1.eq_2 ..) (Ev.neg (fun h2 => h ⟨h2, by omega⟩) (Ev.now _)))) (fun h1 => Ev.step (fun k => spec_OffList.j1.eq_2 ..) (Ev.neg (by simp) (Ev.now _)))) (fun h1 => Ev.step (fun k => spec_OffList.j1.eq_2 ..) (Ev.neg (by simp) (Ev.now _))))
theorem ev_toIntS (l : List Int) (h : l.length ≤ 1048576) : Ev (fun k => laws_toIntS.f k l) l := by
  unfold laws_toIntS.f
  refine Ev.pos (by omega) (Ev.pos (by simp; omega) ?_)
  have hl : (List.range l.length).map (fun j => l.getD j 0) = l := by simpa using map_range_eq (fun x => x) l 0
  have hf : List.replicate ((l.length : Int)).toNat (0 : Int) = filled (fun j => l.getD j 0) (List.replicate l.length 0) 0 := by rw [filled_zero]; simp
  rw [hf]
  refine up_state (fun k s i => laws_toIntS.l0 k l s i) l.length (fun i => filled (fun j => l.getD j 0) (List.replicate l.length 0) i) _ ?_ ?_ 0 (by omega)
  · refine Ev.step (fun k => laws_toIntS.l0.eq_2 ..) (Ev.neg (by omega) (Ev.some_ ?_))
    have := filled_all (fun j => l.getD j 0) (List.replicate l.length (0 : Int))
    simp only [List.length_replicate] at this
    rw [this, hl]
  · intro i hi ih
    refine Ev.step (fun k => laws_toIntS.l0.eq_2 ..) (Ev.pos (by omega) (Ev.pos (by omega) ?_))
    simp only [rd_natI, Int.toNat_natCast, wrap_succ i (by omega)]
    refine Ev.pos (by rw [filled_length _ _ _ (by simp; omega)]; simp; omega) ?_
    rw [← filled_set _ _ i (by simp; omega)] at ih
    exact ih
end Go.Proofs.Ytppojihmllmgnaa.F
