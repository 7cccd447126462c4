/- What the program's checks say. No condition. -/
import Derived.Test.YtpihkhknehadbaaGreatPSpec3
namespace Go.Proofs.YtpihkhknehadbaaGreat.Eng
set_option linter.unusedVariables false
set_option linter.unusedSimpArgs false
theorem impl_isTick_f (k : Nat) (a : Int) : impl_isTick.f k a = chkP (0 ≤ a ∧ a ≤ 100000) := by
  unfold impl_isTick.f; simp (disch := omega) only [lett_e, bnd_s, bnd_chk, br_not, br_t, br_f, br_T, br_F, not_true_eq_false, not_false_eq_true, chk_T, chk_F, chk_eq, eqI_dc, ltI_dc, leI_dc, eqN_dc, notB_dc, andB_dc, andB_t, eqB_dc, notB_t, notB_f, inR_dc, upR_dc, ln_e, app_e, tk_e, dp_e, upd_e, repl_e, natI_n, br_pos, br_neg, addI_n, fitN_T, br_chkF']
theorem impl_isWait_f (k : Nat) (a b : Int) : impl_isWait.f k a b = chkP (b ≤ a ∧ a ≤ 5000) := by
  unfold impl_isWait.f; simp (disch := omega) only [lett_e, bnd_s, bnd_chk, br_not, br_t, br_f, br_T, br_F, not_true_eq_false, not_false_eq_true, chk_T, chk_F, chk_eq, eqI_dc, ltI_dc, leI_dc, eqN_dc, notB_dc, andB_dc, andB_t, eqB_dc, notB_t, notB_f, inR_dc, upR_dc, ln_e, app_e, tk_e, dp_e, upd_e, repl_e, natI_n, br_pos, br_neg, addI_n, fitN_T, br_chkF']
theorem impl_isFrom1_f (k : Nat) (a b : Int) : impl_isFrom1.f k a b = chkP (1 ≤ a ∧ a ≤ b) := by
  unfold impl_isFrom1.f; simp (disch := omega) only [lett_e, bnd_s, bnd_chk, br_not, br_t, br_f, br_T, br_F, not_true_eq_false, not_false_eq_true, chk_T, chk_F, chk_eq, eqI_dc, ltI_dc, leI_dc, eqN_dc, notB_dc, andB_dc, andB_t, eqB_dc, notB_t, notB_f, inR_dc, upR_dc, ln_e, app_e, tk_e, dp_e, upd_e, repl_e, natI_n, br_pos, br_neg, addI_n, fitN_T, br_chkF']
theorem impl_isFlight_f (k : Nat) (x : HallT) (a : Int) : impl_isFlight.f k x a = chkP (1 ≤ a ∧ a ≤ x.2.2.2.2.2.2.2.2.2.2.2.2.2.2.2.1.length) := by
  unfold impl_isFlight.f; simp (disch := omega) only [lett_e, bnd_s, bnd_chk, br_not, br_t, br_f, br_T, br_F, not_true_eq_false, not_false_eq_true, chk_T, chk_F, chk_eq, eqI_dc, ltI_dc, leI_dc, eqN_dc, notB_dc, andB_dc, andB_t, eqB_dc, notB_t, notB_f, inR_dc, upR_dc, ln_e, app_e, tk_e, dp_e, upd_e, repl_e, natI_n, br_pos, br_neg, addI_n, fitN_T, impl_isFrom1_f]
theorem impl_LimitsOk_f (k : Nat) (x : Int × Int × Unit) : impl_LimitsOk.f k x = chkP ((60 ≤ x.1 ∧ x.1 ≤ 2000) ∧ 1 ≤ x.2.1 ∧ x.2.1 ≤ 40) := by
  unfold impl_LimitsOk.f; simp (disch := omega) only [lett_e, bnd_s, bnd_chk, br_not, br_t, br_f, br_T, br_F, not_true_eq_false, not_false_eq_true, chk_T, chk_F, chk_eq, eqI_dc, ltI_dc, leI_dc, eqN_dc, notB_dc, andB_dc, andB_t, eqB_dc, notB_t, notB_f, inR_dc, upR_dc, ln_e, app_e, tk_e, dp_e, upd_e, repl_e, natI_n, br_pos, br_neg, addI_n, fitN_T, br_chkF']; exact chk_congr (by grind)
theorem impl_TagOk_f (k : Nat) (t : Int × Int × Int × Unit) : impl_TagOk.f k t = chkP (TagP t) := by
  unfold impl_TagOk.f; simp (disch := omega) only [lett_e, bnd_s, bnd_chk, br_not, br_t, br_f, br_T, br_F, not_true_eq_false, not_false_eq_true, chk_T, chk_F, chk_eq, eqI_dc, ltI_dc, leI_dc, eqN_dc, notB_dc, andB_dc, andB_t, eqB_dc, notB_t, notB_f, inR_dc, upR_dc, ln_e, app_e, tk_e, dp_e, upd_e, repl_e, natI_n, br_pos, br_neg, addI_n, fitN_T, br_chkF']; exact chk_congr (by unfold TagP; grind)
theorem impl_ScreenOk_f (k : Nat) (s : Int × Int × Int × Unit) : impl_ScreenOk.f k s = chkP (ScreenP s) := by
  unfold impl_ScreenOk.f; simp (disch := omega) only [lett_e, bnd_s, bnd_chk, br_not, br_t, br_f, br_T, br_F, not_true_eq_false, not_false_eq_true, chk_T, chk_F, chk_eq, eqI_dc, ltI_dc, leI_dc, eqN_dc, notB_dc, andB_dc, andB_t, eqB_dc, notB_t, notB_f, inR_dc, upR_dc, ln_e, app_e, tk_e, dp_e, upd_e, repl_e, natI_n, br_pos, br_neg, addI_n, fitN_T, impl_isTick_f, br_chkF, br_chkF', br_chkT]; exact chk_congr (by unfold ScreenP; grind)
theorem impl_PolicyOk_f {k : Nat} (hk : K0 ≤ k) (x : List (Int × Unit) × Unit) : impl_PolicyOk.f k x = chkP (PolicyP x.1) := by
  unfold K0 at hk
  unfold impl_PolicyOk.f
  by_cases h : x.1.length = 3
  case neg => simp (disch := omega) only [lett_e, bnd_s, bnd_chk, br_not, br_t, br_f, br_T, br_F, not_true_eq_false, not_false_eq_true, chk_T, chk_F, chk_eq, eqI_dc, ltI_dc, leI_dc, eqN_dc, notB_dc, andB_dc, andB_t, eqB_dc, notB_t, notB_f, inR_dc, upR_dc, ln_e, app_e, tk_e, dp_e, upd_e, repl_e, natI_n, br_pos, br_neg, addI_n, fitN_T]; exact chk_congr ⟨fun z => z.elim, fun z => h z.1⟩
  simp (disch := omega) only [lett_e, bnd_s, bnd_chk, br_not, br_t, br_f, br_T, br_F, not_true_eq_false, not_false_eq_true, chk_T, chk_F, chk_eq, eqI_dc, ltI_dc, leI_dc, eqN_dc, notB_dc, andB_dc, andB_t, eqB_dc, notB_t, notB_f, inR_dc, upR_dc, ln_e, app_e, tk_e, dp_e, upd_e, repl_e, natI_n, br_pos, br_neg, addI_n, fitN_T]
  rw [loop_chk (n := x.1.length) (Q := True) (fun i => ((i : Int), ())) (fun i => 1 ≤ (rdP (0, ()) x.1 i).1 ∧ (rdP (0, ()) x.1 i).1 ≤ 5000) ?h0 ?hk0 ?hs0 ?he0]
  case h0 => simp
  case hk0 => omega
  case hs0 => intro i hi _ rec; simp (disch := omega) only [lett_e, bnd_s, bnd_chk, br_not, br_t, br_f, br_T, br_F, not_true_eq_false, not_false_eq_true, chk_T, chk_F, chk_eq, eqI_dc, ltI_dc, leI_dc, eqN_dc, notB_dc, andB_dc, andB_t, eqB_dc, notB_t, notB_f, inR_dc, upR_dc, ln_e, app_e, tk_e, dp_e, upd_e, repl_e, natI_n, br_pos, br_neg, addI_n, fitN_T, impl_isWait_f]; rw [chk_neg (p := ¬ (0 ≤ (i : Int))) (by omega)]; rfl
  case he0 => intro _ rec; simp (disch := omega) only [lett_e, bnd_s, bnd_chk, br_not, br_t, br_f, br_T, br_F, not_true_eq_false, not_false_eq_true, chk_T, chk_F, chk_eq, eqI_dc, ltI_dc, leI_dc, eqN_dc, notB_dc, andB_dc, andB_t, eqB_dc, notB_t, notB_f, inR_dc, upR_dc, ln_e, app_e, tk_e, dp_e, upd_e, repl_e, natI_n, br_pos, br_neg, addI_n, fitN_T]; exact chk_pos (by omega)
  refine chk_congr ?_
  unfold PolicyP
  rw [all_rd (d := (0, ())) (l := x.1) (P := fun y : Int × Unit => 1 ≤ y.1 ∧ y.1 ≤ 5000)]
  grind
theorem impl_isOn_f {k : Nat} (hk : K0 ≤ k) (l : List Item) (a : Int) (hx : l.length ≤ 1048576) : impl_isOn.f k l a = chkP (∃ y, y ∈ l ∧ y.1 = a) := by
  unfold K0 at hk
  unfold impl_isOn.f
  rw [loop_any (n := l.length) (r := chkP True) (e := chkP False) (fun i => ((i : Int), ())) (fun i => (rdP (0, 0, 0, ()) l i).1 = a) ?h0 ?hk ?hs ?he]
  case h0 => simp
  case hk => omega
  case hs => intro i hi _ rec; simp (disch := omega) only [lett_e, bnd_s, bnd_chk, br_not, br_t, br_f, br_T, br_F, not_true_eq_false, not_false_eq_true, chk_T, chk_F, chk_eq, eqI_dc, ltI_dc, leI_dc, eqN_dc, notB_dc, andB_dc, andB_t, eqB_dc, notB_t, notB_f, inR_dc, upR_dc, ln_e, app_e, tk_e, dp_e, upd_e, repl_e, natI_n, br_pos, br_neg, addI_n, fitN_T]; rw [chk_pos (p := 0 ≤ (i : Int)) (by omega)]; rfl
  case he => intro _ rec; simp (disch := omega) only [lett_e, bnd_s, bnd_chk, br_not, br_t, br_f, br_T, br_F, not_true_eq_false, not_false_eq_true, chk_T, chk_F, chk_eq, eqI_dc, ltI_dc, leI_dc, eqN_dc, notB_dc, andB_dc, andB_t, eqB_dc, notB_t, notB_f, inR_dc, upR_dc, ln_e, app_e, tk_e, dp_e, upd_e, repl_e, natI_n, br_pos, br_neg, addI_n, fitN_T]; exact chk_neg (by omega)
  simp (disch := omega) only [lett_e, bnd_s, bnd_chk, br_not, br_t, br_f, br_T, br_F, not_true_eq_false, not_false_eq_true, chk_T, chk_F, chk_eq, eqI_dc, ltI_dc, leI_dc, eqN_dc, notB_dc, andB_dc, andB_t, eqB_dc, notB_t, notB_f, inR_dc, upR_dc, ln_e, app_e, tk_e, dp_e, upd_e, repl_e, natI_n, br_pos, br_neg, addI_n, fitN_T, br_chkF']
  exact chk_congr (by rw [ex_rd (P := fun y : Item => y.1 = a), and_true])
theorem mem_take_rd {α : Type} {d : α} {l : List α} {i : Nat} (hi : i ≤ l.length) {P : α → Prop} : (∃ y, y ∈ l.take i ∧ P y) ↔ ∃ j, j < i ∧ P (rdP d l j) := by
  constructor
  · rintro ⟨y, hy, hp⟩
    obtain ⟨j, hj, e⟩ := List.getElem_of_mem hy
    have hj' : j < i := by rw [List.length_take] at hj; omega
    refine ⟨j, hj', ?_⟩
    rw [rd_lt (by omega)]
    rw [List.getElem_take] at e
    rw [e]; exact hp
  · rintro ⟨j, hj, hp⟩
    rw [rd_lt (by omega)] at hp
    exact ⟨_, List.mem_take_iff_getElem.2 ⟨j, by omega, rfl⟩, hp⟩
theorem impl_BeltOk_f {k : Nat} (hk : K0 ≤ k) (x : Int × Int × Bool × List Item × Unit) : impl_BeltOk.f k x = chkP (BeltP x) := by
  have hk' := hk
  unfold K0 at hk
  unfold impl_BeltOk.f
  by_cases h1 : 1 ≤ x.1 ∧ x.1 ≤ 400
  case neg =>
    have : chkP (BeltP x) = chkP False := chk_neg fun z => h1 z.1
    rw [this]
    by_cases h : x.1 < 1 <;> simp (disch := omega) only [lett_e, bnd_s, bnd_chk, br_not, br_t, br_f, br_T, br_F, not_true_eq_false, not_false_eq_true, chk_T, chk_F, chk_eq, eqI_dc, ltI_dc, leI_dc, eqN_dc, notB_dc, andB_dc, andB_t, eqB_dc, notB_t, notB_f, inR_dc, upR_dc, ln_e, app_e, tk_e, dp_e, upd_e, repl_e, natI_n, br_pos, br_neg, addI_n, fitN_T]
  by_cases h2 : 0 ≤ x.2.1 ∧ x.2.1 ≤ 20
  case neg =>
    have : chkP (BeltP x) = chkP False := chk_neg fun z => h2 z.2.1
    rw [this]
    by_cases h : x.2.1 < 0 <;> simp (disch := omega) only [lett_e, bnd_s, bnd_chk, br_not, br_t, br_f, br_T, br_F, not_true_eq_false, not_false_eq_true, chk_T, chk_F, chk_eq, eqI_dc, ltI_dc, leI_dc, eqN_dc, notB_dc, andB_dc, andB_t, eqB_dc, notB_t, notB_f, inR_dc, upR_dc, ln_e, app_e, tk_e, dp_e, upd_e, repl_e, natI_n, br_pos, br_neg, addI_n, fitN_T]
  by_cases h3 : x.2.2.2.1.length ≤ 40
  case neg => simp (disch := omega) only [lett_e, bnd_s, bnd_chk, br_not, br_t, br_f, br_T, br_F, not_true_eq_false, not_false_eq_true, chk_T, chk_F, chk_eq, eqI_dc, ltI_dc, leI_dc, eqN_dc, notB_dc, andB_dc, andB_t, eqB_dc, notB_t, notB_f, inR_dc, upR_dc, ln_e, app_e, tk_e, dp_e, upd_e, repl_e, natI_n, br_pos, br_neg, addI_n, fitN_T]; exact chk_congr ⟨fun z => z.elim, fun z => h3 z.2.2.1⟩
  simp (disch := omega) only [lett_e, bnd_s, bnd_chk, br_not, br_t, br_f, br_T, br_F, not_true_eq_false, not_false_eq_true, chk_T, chk_F, chk_eq, eqI_dc, ltI_dc, leI_dc, eqN_dc, notB_dc, andB_dc, andB_t, eqB_dc, notB_t, notB_f, inR_dc, upR_dc, ln_e, app_e, tk_e, dp_e, upd_e, repl_e, natI_n, br_pos, br_neg, addI_n, fitN_T]
  obtain ⟨most, hm0⟩ : ∃ most : Nat → Int, ∀ i, most i = if i = 0 then x.1 else (rdP (0, 0, 0, ()) x.2.2.2.1 (i - 1)).2.1 - (rdP (0, 0, 0, ()) x.2.2.2.1 (i - 1)).2.2.1 - x.2.1 := ⟨_, fun _ => rfl⟩
  have hmost : ∀ i, (∀ j, j < i → ItemP x j) → most i ≤ x.1 := fun i hp => by
    rw [hm0]
    split
    · omega
    · obtain ⟨_, _, ⟨_, _⟩, _⟩ := hp (i - 1) (by omega); omega
  rw [loop_chk (n := x.2.2.2.1.length) (Q := True) (fun i => (most i, (i : Int), ())) (ItemP x) ?h0 ?hk0 ?hs0 ?he0]
  case h0 => rw [hm0]; rfl
  case hk0 => omega
  case he0 => intro _ rec; simp (disch := omega) only [lett_e, bnd_s, bnd_chk, br_not, br_t, br_f, br_T, br_F, not_true_eq_false, not_false_eq_true, chk_T, chk_F, chk_eq, eqI_dc, ltI_dc, leI_dc, eqN_dc, notB_dc, andB_dc, andB_t, eqB_dc, notB_t, notB_f, inR_dc, upR_dc, ln_e, app_e, tk_e, dp_e, upd_e, repl_e, natI_n, br_pos, br_neg, addI_n, fitN_T]
  case hs0 =>
    intro i hi hp rec
    have hl : (x.2.2.2.1.take i).length ≤ 1048576 := by rw [List.length_take]; omega
    have hm := hmost i hp
    simp (disch := omega) only [lett_e, bnd_s, bnd_chk, br_not, br_t, br_f, br_T, br_F, not_true_eq_false, not_false_eq_true, chk_T, chk_F, chk_eq, eqI_dc, ltI_dc, leI_dc, eqN_dc, notB_dc, andB_dc, andB_t, eqB_dc, notB_t, notB_f, inR_dc, upR_dc, ln_e, app_e, tk_e, dp_e, upd_e, repl_e, natI_n, br_pos, br_neg, addI_n, fitN_T, impl_isOn_f hk' _ _ hl]
    rw [mem_take_rd (d := (0, 0, 0, ())) (by omega)]
    simp only [g1, g2]
    refine br_iff' ?_ (fun z => ?_)
    · unfold ItemP
      have := hm0 i
      by_cases hi0 : i = 0
      · subst hi0; simp at this ⊢; grind
      · rw [if_neg hi0] at this; grind
    · have e : most (i + 1) = (rdP (0, 0, 0, ()) x.2.2.2.1 i).2.1 - (rdP (0, 0, 0, ()) x.2.2.2.1 i).2.2.1 - x.2.1 := by rw [hm0, if_neg (by omega), Nat.add_sub_cancel]
      show rec _ = rec _
      rw [e, subI_id (x := (rdP (0, 0, 0, ()) x.2.2.2.1 i).2.1) (by omega), subI_id (by omega)]
      rfl
  exact chk_congr ⟨fun z => ⟨h1, h2, h3, z.1⟩, fun z => ⟨z.2.2.2, trivial⟩⟩
end Go.Proofs.YtpihkhknehadbaaGreat.Eng
