/- Drawn boxes on two sides: the pure statement. No condition. -/
import Derived.Test.YtnldmnlfocigaaaStFnSides
import Derived.Test.YtnldmnlfocigaaaLoadSides
import Derived.Test.YtnldmnlfocigaaaDrawBase
namespace Go.Proofs.Ytnldmnlfocigaaa.Pure
open Go.RowKit Go.Proofs.YtnldmnlfocigaaaW.PrintWords Go.Proofs.Ytnldmnlfocigaaa.Opn Go.Proofs.Ytnldmnlfocigaaa.F
theorem weights_l1 (b : List Int) (hb : b.length ≤ 1048576) : ∀ d (x : List Int) (i h : Int), x.length ≤ 13 → 13 - x.length = d → Cok b i → ∃ w i' h', Ev (fun k => spec_l07Weights.l1 k x b i h) (w, i', h') ∧ w.length ≤ 13 ∧ Cok b i' := by
  intro d
  induction d with
  | zero =>
    intro x i h hx hd hc
    obtain ⟨v, i', h', e, h0, _, h1, hc'⟩ := d_below b hb i h 2 hc
    have h1 := h1 (by omega)
    refine ⟨x, i', h', Ev.step (fun k => spec_l07Weights.l1.eq_2 ..) (Ev.bd' e (Ev.neg ?_ (Ev.now _))), hx, hc'⟩
    simp only
    rw [wrap_id (by omega) (by omega)]; omega
  | succ d ih =>
    intro x i h hx hd hc
    obtain ⟨v, i', h', e, h0, _, h1, hc'⟩ := d_below b hb i h 2 hc
    by_cases c : (x.length : Int) < wrap64 (12 + v)
    · obtain ⟨w, i2, h2, ev, hw, hc2⟩ := ih (x ++ [9]) i' h' (by simp; omega) (by simp; omega) hc'
      exact ⟨w, i2, h2, Ev.step (fun k => spec_l07Weights.l1.eq_2 ..) (Ev.bd' e (Ev.pos c (Ev.pos (by omega) ev))), hw, hc2⟩
    · exact ⟨x, i', h', Ev.step (fun k => spec_l07Weights.l1.eq_2 ..) (Ev.bd' e (Ev.neg c (Ev.now _))), hx, hc'⟩
theorem weights_j1 (b : List Int) (hb : b.length ≤ 1048576) (x : List Int) (i h : Int) (hx : x.length ≤ 13) (hc : Cok b i) : ∃ w i' h', Ev (fun k => spec_l07Weights.j1 k x b i h) (w, i', h') ∧ w.length ≤ 13 ∧ Cok b i' := by
  obtain ⟨v, i', h', e, hc'⟩ := d_once b hb i h 20 hc
  cases v with
  | true =>
    obtain ⟨w, i2, h2, ev, hw, hc2⟩ := weights_l1 b hb _ x i' h' hx rfl hc'
    exact ⟨w, i2, h2, Ev.step (fun k => spec_l07Weights.j1.eq_2 ..) (Ev.bd' e (Ev.pos rfl ev)), hw, hc2⟩
  | false => exact ⟨x, i', h', Ev.step (fun k => spec_l07Weights.j1.eq_2 ..) (Ev.bd' e (Ev.neg (by simp) (Ev.now _))), hx, hc'⟩
theorem weights_l0 (b : List Int) (hb : b.length ≤ 1048576) : ∀ (m : Nat) (x : List Int) (i h : Int), x.length + m ≤ 12 → Cok b i → ∃ w i' h', Ev (fun k => spec_l07Weights.l0 k x (m : Int) b i h) (w, i', h') ∧ w.length ≤ 13 ∧ Cok b i' := by
  intro m
  induction m with
  | zero =>
    intro x i h hx hc
    obtain ⟨v, i', h', e, hc'⟩ := d_once b hb i h 14 hc
    cases v with
    | true =>
      obtain ⟨y, i2, h2, e2, _, hc2⟩ := d_pick b hb i' h' [(-1), 2001, (-2000), 9223372036854775807, (-9223372036854775808)] (by decide) hc'
      obtain ⟨w, i3, h3, ev, hw, hc3⟩ := weights_j1 b hb (x ++ [y]) i2 h2 (by simp; omega) hc2
      exact ⟨w, i3, h3, Ev.step (fun k => spec_l07Weights.l0.eq_2 ..) (Ev.neg (by omega) (Ev.bd' e (Ev.pos rfl (Ev.bd' e2 (Ev.pos (by omega) ev))))), hw, hc3⟩
    | false =>
      obtain ⟨w, i3, h3, ev, hw, hc3⟩ := weights_j1 b hb x i' h' (by omega) hc'
      exact ⟨w, i3, h3, Ev.step (fun k => spec_l07Weights.l0.eq_2 ..) (Ev.neg (by omega) (Ev.bd' e (Ev.neg (by simp) ev))), hw, hc3⟩
  | succ m ih =>
    intro x i h hx hc
    obtain ⟨y, i2, h2, e2, _, hc2⟩ := d_pick b hb i h [0, 1, 5, 12, 12, 40, 73, 200, 2000] (by decide) hc
    obtain ⟨w, i3, h3, ev, hw, hc3⟩ := ih (x ++ [y]) i2 h2 (by simp; omega) hc2
    refine ⟨w, i3, h3, Ev.step (fun k => spec_l07Weights.l0.eq_2 ..) (Ev.pos (by omega) (Ev.bd' e2 (Ev.pos (by omega) ?_))), hw, hc3⟩
    simp only [wrap_pred (m + 1) (by omega) (by omega)]
    exact ev
theorem weights (b : List Int) (hb : b.length ≤ 1048576) (i h : Int) (hc : Cok b i) : ∃ w i' h', Ev (fun k => spec_l07Weights.f k b i h) (w, i', h') ∧ w.length ≤ 13 ∧ Cok b i' := by
  obtain ⟨n, i1, h1, e1, n0, _, n1, hc1⟩ := d_below b hb i h 8 hc
  have n1 := n1 (by omega)
  obtain ⟨m, rfl⟩ := Int.eq_ofNat_of_zero_le n0
  obtain ⟨w, i2, h2, ev, hw, hc2⟩ := weights_l0 b hb m [] i1 h1 (by simp; omega) hc1
  exact ⟨w, i2, h2, by unfold spec_l07Weights.f; exact Ev.bd' e1 ev, hw, hc2⟩
theorem draw_lay (b : List Int) (hb : b.length ≤ 1048576) : ∃ w, Ev (fun k => spec_DrawLay.f k b) w ∧ w.length ≤ 13 := by
  obtain ⟨h, hn⟩ := ev_new b hb
  obtain ⟨w, i, h', ev, hw, _⟩ := weights b hb 0 h (cok_zero b)
  exact ⟨w, by unfold spec_DrawLay.f; exact Ev.bd hn (Ev.bd ev (Ev.now _)), hw⟩
theorem draw_sides_l0 (b : List Int) (hb : b.length ≤ 1048576) (w : List Int) (hw : w.length ≤ 13) : ∀ d (j : Nat) (s : List Bool) (i h : Int), j ≤ w.length → w.length - j = d → s.length = j → Cok b i → ∃ s', Ev (fun k => spec_DrawSideDifference.l0 k w s (j : Int) b i h) (w, s') ∧ s'.length ≤ 14 := by
  intro d
  induction d with
  | zero =>
    intro j s i h hj hd hs hc
    obtain ⟨v, i', h', e, hc'⟩ := d_once b hb i h 12 hc
    cases v with
    | true => exact ⟨s ++ [true], Ev.step (fun k => spec_DrawSideDifference.l0.eq_2 ..) (Ev.neg (by omega) (Ev.bd' e (Ev.pos rfl (Ev.pos (by omega) (Ev.now _))))), by simp; omega⟩
    | false => exact ⟨s, Ev.step (fun k => spec_DrawSideDifference.l0.eq_2 ..) (Ev.neg (by omega) (Ev.bd' e (Ev.neg (by simp) (Ev.now _)))), by omega⟩
  | succ d ih =>
    intro j s i h hj hd hs hc
    obtain ⟨v, i', h', e, hc'⟩ := d_once b hb i h 2 hc
    obtain ⟨s', ev, hs'⟩ := ih (j + 1) (s ++ [v]) i' h' (by omega) (by omega) (by simp; omega) hc'
    refine ⟨s', Ev.step (fun k => spec_DrawSideDifference.l0.eq_2 ..) (Ev.pos (by omega) (Ev.bd' e (Ev.pos (by omega) ?_))), hs'⟩
    simp only [wrap_succ j (by omega)]
    exact ev
theorem draw_sides (b : List Int) (hb : b.length ≤ 1048576) : ∃ w s, Ev (fun k => spec_DrawSideDifference.f k b) (w, s) ∧ w.length ≤ 13 ∧ s.length ≤ 14 := by
  obtain ⟨h, hn⟩ := ev_new b hb
  obtain ⟨w, i, h', ev, hw, hc⟩ := weights b hb 0 h (cok_zero b)
  obtain ⟨s, ev2, hs⟩ := draw_sides_l0 b hb w hw _ 0 [] i h' (by omega) rfl rfl hc
  exact ⟨w, s, by unfold spec_DrawSideDifference.f; exact Ev.bd hn (Ev.bd ev ev2), hw, hs⟩
theorem ev_sameBools (l : List Bool) (h : l.length ≤ 1048576) : Ev (fun k => laws_sameBools.f k l l) true := by
  unfold laws_sameBools.f
  refine Ev.pos rfl ?_
  refine up_loop (fun k i => laws_sameBools.l0 k l l i) l.length (fun _ => true) ?_ ?_ 0 (by omega)
  · exact Ev.step (fun k => laws_sameBools.l0.eq_2 ..) (Ev.neg (by omega) (Ev.now _))
  · intro i hi ih
    refine Ev.step (fun k => laws_sameBools.l0.eq_2 ..) (Ev.pos (by omega) (Ev.pos (by omega) (Ev.pos (by omega) (Ev.neg (by simp) ?_))))
    simp only [wrap_succ i (by omega)]
    exact ih
theorem FnSides : laws_FnSides.PureR := by
  rintro b ⟨_, _⟩
  refine Ev.rounds ?_
  unfold laws_FnSides.f laws_big.f
  refine Ev.bs (Ev.ite (fun _ => Ev.now _) (fun hn => ?_))
  have hb : b.length ≤ 1048576 := by
    have : ¬ ((b.length : Int) > 1048576) := by simpa using hn
    omega
  obtain ⟨w, evw, hw⟩ := draw_lay b hb
  obtain ⟨v, s, evs, hv, hs⟩ := draw_sides b hb
  have hy := LY_length w
  refine Ev.bd evw (Ev.bd (ev_impl_LeastDifference w) (Ev.bd (ev_impl_Lay w) (Ev.bd (ev_spec_LeastDifference w) (Ev.pos rfl (Ev.bd (ev_spec_Lay w) (Ev.bd (ev_sameBools _ (by omega)) (Ev.step (fun k => laws_FnSides.j0.eq_2 ..) (Ev.neg (by simp) (Ev.bd evs (Ev.bd (ev_impl_SideDifference v s (by omega) (by omega)) (Ev.bd (ev_spec_SideDifference v s (by omega) (by omega)) (Ev.pos rfl ?_))))))))))))
  by_cases hd : laid w 0
  · obtain ⟨t, h1, h2, h3, h4, _, _⟩ := LD_best w hd
    have hn := DD_nonneg w t
    refine Ev.neg (by omega) (Ev.bd (ev_impl_SideDifference w (LY w) (by omega) (by omega)) (Ev.pos (by rw [h3, sd_length]) (Ev.some_ ?_)))
    rw [h2, h3]
    exact beq_self_eq_true (DD w t)
  · rw [LD_neg w hd]
    have : LY w = [] := by unfold LY; rw [if_neg hd]
    rw [this]
    exact Ev.pos (by omega) (Ev.some_ rfl)
end Go.Proofs.Ytnldmnlfocigaaa.Pure
