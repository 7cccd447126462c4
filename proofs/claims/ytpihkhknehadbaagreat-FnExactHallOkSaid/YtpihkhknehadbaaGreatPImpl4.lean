/- What the program's check of a hall says. No condition. -/
import Derived.Test.YtpihkhknehadbaaGreatPImpl3
namespace Go.Proofs.YtpihkhknehadbaaGreat.Eng
set_option linter.unusedVariables false
set_option linter.unusedSimpArgs false
def IsCaseP (x : HallT) (e : CaseT) : Prop := TagP (e.1, e.2.1, e.2.2.1, ()) ∧ (1 ≤ e.2.2.2.1 ∧ e.2.2.2.1 ≤ x.2.2.2.2.2.2.2.2.2.2.2.2.2.2.2.1.length) ∧ (1 ≤ e.2.2.2.2.1 ∧ e.2.2.2.2.1 ≤ 60) ∧ (0 ≤ e.2.2.2.2.2.1 ∧ e.2.2.2.2.2.1 ≤ 5) ∧
  (if e.2.2.2.2.2.2.1 = 1 then e.2.2.2.2.2.2.2.1 = 0 ∧ e.2.2.2.2.2.2.2.2.1 = 0 ∧ e.2.2.2.2.2.2.2.2.2.1 = 0 else (ScreenP (e.2.2.2.2.2.2.2.1, e.2.2.2.2.2.2.2.2.1, e.2.2.2.2.2.2.2.2.2.1, ()) ∧ e.2.2.2.2.2.2.2.2.1 ≤ x.1) ∧
    if e.2.2.2.2.2.2.1 = 2 then e.2.2.2.2.2.2.2.2.2.1 ≠ 2 else if e.2.2.2.2.2.2.1 = 3 ∨ e.2.2.2.2.2.2.1 = 4 ∨ e.2.2.2.2.2.2.1 = 5 then e.2.2.2.2.2.2.2.2.2.1 = 1 else if e.2.2.2.2.2.2.1 = 6 then e.2.2.2.2.2.2.2.2.2.1 = 1 ∧ (rdP fd0 x.2.2.2.2.2.2.2.2.2.2.2.2.2.2.2.1 (natI (e.2.2.2.1 - 1))).2.2.2.1 = true else e.2.2.2.2.2.2.1 = 7)
theorem impl_isCase_f (k : Nat) (x : HallT) (e : CaseT) (hf : x.2.2.2.2.2.2.2.2.2.2.2.2.2.2.2.1.length ≤ 1048576) : impl_isCase.f k x e = chkP (IsCaseP x e) := by
  unfold impl_isCase.f
  simp (disch := omega) only [lett_e, bnd_s, bnd_chk, br_not, br_t, br_f, br_T, br_F, not_true_eq_false, not_false_eq_true, chk_T, chk_F, chk_eq, eqI_dc, ltI_dc, leI_dc, eqN_dc, notB_dc, andB_dc, andB_t, eqB_dc, notB_t, notB_f, inR_dc, upR_dc, ln_e, app_e, tk_e, dp_e, upd_e, repl_e, natI_n, br_pos, br_neg, addI_n, fitN_T, impl_TagOk_f, impl_isFlight_f, impl_isFrom1_f, impl_ScreenOk_f]
  by_cases hF : 1 ≤ e.2.2.2.1 ∧ e.2.2.2.1 ≤ x.2.2.2.2.2.2.2.2.2.2.2.2.2.2.2.1.length
  case neg =>
    rw [br_neg hF, br_same]
    exact chk_congr ⟨fun z => z.elim, fun z => hF z.2.1⟩
  rw [br_pos hF, subI_id (x := e.2.2.2.1) (by omega)]
  rw [dc_bool (rdP (0, 0, 0, false, 0, ()) x.2.2.2.2.2.2.2.2.2.2.2.2.2.2.2.1 (natI (e.2.2.2.1 - 1))).2.2.2.1]
  simp (disch := omega) only [lett_e, bnd_s, bnd_chk, br_not, br_t, br_f, br_T, br_F, not_true_eq_false, not_false_eq_true, chk_T, chk_F, chk_eq, eqI_dc, ltI_dc, leI_dc, eqN_dc, notB_dc, andB_dc, andB_t, eqB_dc, notB_t, notB_f, inR_dc, upR_dc, ln_e, app_e, tk_e, dp_e, upd_e, repl_e, natI_n, br_pos, br_neg, addI_n, fitN_T, br_chkF, br_chkF', br_chkT, br_chk]
  refine chk_congr ?_
  unfold IsCaseP
  generalize (rdP (0, 0, 0, false, 0, ()) x.2.2.2.2.2.2.2.2.2.2.2.2.2.2.2.1 (natI (e.2.2.2.1 - 1))).2.2.2.1 = pF
  generalize TagP (e.1, e.2.1, e.2.2.1, ()) = pG
  generalize ScreenP (e.2.2.2.2.2.2.2.1, e.2.2.2.2.2.2.2.2.1, e.2.2.2.2.2.2.2.2.2.1, ()) = pH
  generalize e.2.2.2.2.2.2.1 = p
  generalize e.2.2.2.2.2.2.2.2.2.1 = v
  by_cases h1 : p = 1
  · subst h1; simp; grind
  by_cases h2 : p = 2
  · subst h2; simp; grind
  by_cases h3 : p = 3
  · subst h3; simp; grind
  by_cases h4 : p = 4
  · subst h4; simp; grind
  by_cases h5 : p = 5
  · subst h5; simp; grind
  by_cases h6 : p = 6
  · subst h6; simp; grind
  simp [h1, h2, h3, h4, h5, h6]; grind
theorem impl_hasTag_f {k : Nat} (hk : K0 ≤ k) (l : List CaseT) (t : Int × Int × Int × Unit) (hx : l.length ≤ 1048576) : impl_hasTag.f k l t = chkP (∃ y, y ∈ l ∧ (y.1 = t.1 ∧ y.2.1 = t.2.1 ∧ y.2.2.1 = t.2.2.1)) := by
  unfold K0 at hk
  unfold impl_hasTag.f
  rw [loop_any (n := l.length) (r := chkP True) (e := chkP False) (fun i => ((i : Int), ())) (fun i => (rdP cd0 l i).1 = t.1 ∧ (rdP cd0 l i).2.1 = t.2.1 ∧ (rdP cd0 l i).2.2.1 = t.2.2.1) ?h0 ?hk ?hs ?he]
  case h0 => simp
  case hk => omega
  case hs => intro i hi _ rec; simp (disch := omega) only [lett_e, bnd_s, bnd_chk, br_not, br_t, br_f, br_T, br_F, not_true_eq_false, not_false_eq_true, chk_T, chk_F, chk_eq, eqI_dc, ltI_dc, leI_dc, eqN_dc, notB_dc, andB_dc, andB_t, eqB_dc, notB_t, notB_f, inR_dc, upR_dc, ln_e, app_e, tk_e, dp_e, upd_e, repl_e, natI_n, br_pos, br_neg, addI_n, fitN_T]; rw [chk_pos (p := 0 ≤ (i : Int)) (by omega)]; rfl
  case he => intro _ rec; simp (disch := omega) only [lett_e, bnd_s, bnd_chk, br_not, br_t, br_f, br_T, br_F, not_true_eq_false, not_false_eq_true, chk_T, chk_F, chk_eq, eqI_dc, ltI_dc, leI_dc, eqN_dc, notB_dc, andB_dc, andB_t, eqB_dc, notB_t, notB_f, inR_dc, upR_dc, ln_e, app_e, tk_e, dp_e, upd_e, repl_e, natI_n, br_pos, br_neg, addI_n, fitN_T]; exact chk_neg (by omega)
  simp (disch := omega) only [lett_e, bnd_s, bnd_chk, br_not, br_t, br_f, br_T, br_F, not_true_eq_false, not_false_eq_true, chk_T, chk_F, chk_eq, eqI_dc, ltI_dc, leI_dc, eqN_dc, notB_dc, andB_dc, andB_t, eqB_dc, notB_t, notB_f, inR_dc, upR_dc, ln_e, app_e, tk_e, dp_e, upd_e, repl_e, natI_n, br_pos, br_neg, addI_n, fitN_T, br_chkF']
  exact chk_congr (by rw [ex_rd (P := fun y : CaseT => y.1 = t.1 ∧ y.2.1 = t.2.1 ∧ y.2.2.1 = t.2.2.1), and_true])
/-- the bags at a place, of the first cases -/
def atR (l : List CaseT) (p : Int) (i : Nat) : List (Int × Unit) := ((List.range i).filter fun j => decide ((rdP cd0 l j).2.2.2.2.2.2.1 = p)).map fun (j : Nat) => ((j : Int) + 1, ())
theorem atR_s (l : List CaseT) (p : Int) (i : Nat) : atR l p (i + 1) = atR l p i ++ (if (rdP cd0 l i).2.2.2.2.2.2.1 = p then [((i : Int) + 1, ())] else []) := by
  unfold atR
  rw [List.range_succ, List.filter_append, List.map_append]
  congr 1
  by_cases h : (rdP cd0 l i).2.2.2.2.2.2.1 = p <;> simp [h]
theorem atR_len (l : List CaseT) (p : Int) (i : Nat) : (atR l p i).length ≤ i := by
  unfold atR
  rw [List.length_map]
  exact Nat.le_trans (List.length_filter_le _ _) (by simp)
theorem impl_at_f {k : Nat} (hk : K0 ≤ k) (x : HallT) (p : Int) (hx : x.2.2.2.2.2.2.2.2.2.2.2.2.2.2.2.2.1.length ≤ 1048576) : impl_at.f k x p = some (atR x.2.2.2.2.2.2.2.2.2.2.2.2.2.2.2.2.1 p x.2.2.2.2.2.2.2.2.2.2.2.2.2.2.2.2.1.length, ()) := by
  unfold K0 at hk
  unfold impl_at.f
  refine loop_run (n := x.2.2.2.2.2.2.2.2.2.2.2.2.2.2.2.2.1.length) (fun i => (atR x.2.2.2.2.2.2.2.2.2.2.2.2.2.2.2.2.1 p i, (i : Int), ())) (by simp [atR]) (fun i hi rec => ?_) (fun rec => by simp (disch := omega) only [lett_e, bnd_s, bnd_chk, br_not, br_t, br_f, br_T, br_F, not_true_eq_false, not_false_eq_true, chk_T, chk_F, chk_eq, eqI_dc, ltI_dc, leI_dc, eqN_dc, notB_dc, andB_dc, andB_t, eqB_dc, notB_t, notB_f, inR_dc, upR_dc, ln_e, app_e, tk_e, dp_e, upd_e, repl_e, natI_n, br_pos, br_neg, addI_n, fitN_T]) (by omega)
  have hl := atR_len x.2.2.2.2.2.2.2.2.2.2.2.2.2.2.2.2.1 p i
  have hf := fitL_T (l := atR x.2.2.2.2.2.2.2.2.2.2.2.2.2.2.2.2.1 p i) (m := [((i : Int) + 1, ())]) (by simp; omega)
  rw [atR_s]
  by_cases hp : (rdP cd0 x.2.2.2.2.2.2.2.2.2.2.2.2.2.2.2.2.1 i).2.2.2.2.2.2.1 = p
  · simp (disch := omega) only [lett_e, bnd_s, bnd_chk, br_not, br_t, br_f, br_T, br_F, not_true_eq_false, not_false_eq_true, chk_T, chk_F, chk_eq, eqI_dc, ltI_dc, leI_dc, eqN_dc, notB_dc, andB_dc, andB_t, eqB_dc, notB_t, notB_f, inR_dc, upR_dc, ln_e, app_e, tk_e, dp_e, upd_e, repl_e, natI_n, br_pos, br_neg, addI_n, fitN_T, hf]
    rw [if_pos hp]
    rfl
  · simp (disch := omega) only [lett_e, bnd_s, bnd_chk, br_not, br_t, br_f, br_T, br_F, not_true_eq_false, not_false_eq_true, chk_T, chk_F, chk_eq, eqI_dc, ltI_dc, leI_dc, eqN_dc, notB_dc, andB_dc, andB_t, eqB_dc, notB_t, notB_f, inR_dc, upR_dc, ln_e, app_e, tk_e, dp_e, upd_e, repl_e, natI_n, br_pos, br_neg, addI_n, fitN_T]
    rw [if_neg hp, List.append_nil]
    rfl
theorem slices_Equal_int_int_f {k : Nat} (hk : K0 ≤ k) (a b : List (Int × Unit)) (ha : a.length ≤ 1048576) : slices_Equal_int_int.f k a b = chkP (a = b) := by
  unfold K0 at hk
  unfold slices_Equal_int_int.f
  by_cases hl : a.length = b.length
  case neg => simp (disch := omega) only [lett_e, bnd_s, bnd_chk, br_not, br_t, br_f, br_T, br_F, not_true_eq_false, not_false_eq_true, chk_T, chk_F, chk_eq, eqI_dc, ltI_dc, leI_dc, eqN_dc, notB_dc, andB_dc, andB_t, eqB_dc, notB_t, notB_f, inR_dc, upR_dc, ln_e, app_e, tk_e, dp_e, upd_e, repl_e, natI_n, br_pos, br_neg, addI_n, fitN_T]; exact chk_congr ⟨fun z => z.elim, fun z => hl (by rw [z])⟩
  simp (disch := omega) only [lett_e, bnd_s, bnd_chk, br_not, br_t, br_f, br_T, br_F, not_true_eq_false, not_false_eq_true, chk_T, chk_F, chk_eq, eqI_dc, ltI_dc, leI_dc, eqN_dc, notB_dc, andB_dc, andB_t, eqB_dc, notB_t, notB_f, inR_dc, upR_dc, ln_e, app_e, tk_e, dp_e, upd_e, repl_e, natI_n, br_pos, br_neg, addI_n, fitN_T]
  rw [loop_chk (n := a.length) (Q := True) (fun i => ((i : Int), ())) (fun i => (rdP (0, ()) a i).1 = (rdP (0, ()) b i).1) ?h0 ?hk0 ?hs0 ?he0]
  case h0 => simp
  case hk0 => omega
  case he0 => intro _ rec; simp (disch := omega) only [lett_e, bnd_s, bnd_chk, br_not, br_t, br_f, br_T, br_F, not_true_eq_false, not_false_eq_true, chk_T, chk_F, chk_eq, eqI_dc, ltI_dc, leI_dc, eqN_dc, notB_dc, andB_dc, andB_t, eqB_dc, notB_t, notB_f, inR_dc, upR_dc, ln_e, app_e, tk_e, dp_e, upd_e, repl_e, natI_n, br_pos, br_neg, addI_n, fitN_T]
  case hs0 =>
    intro i hi _ rec
    simp (disch := omega) only [lett_e, bnd_s, bnd_chk, br_not, br_t, br_f, br_T, br_F, not_true_eq_false, not_false_eq_true, chk_T, chk_F, chk_eq, eqI_dc, ltI_dc, leI_dc, eqN_dc, notB_dc, andB_dc, andB_t, eqB_dc, notB_t, notB_f, inR_dc, upR_dc, ln_e, app_e, tk_e, dp_e, upd_e, repl_e, natI_n, br_pos, br_neg, addI_n, fitN_T, g1]
    exact br_iff (by grind) _ _
  refine chk_congr ⟨fun z => ?_, fun z => ⟨fun i _ => by rw [z], trivial⟩⟩
  refine List.ext_getElem hl (fun i h1 h2 => ?_)
  have := z.1 i h1
  rw [rd_lt h1, rd_lt h2] at this
  have : ∀ a b : Int × Unit, a.1 = b.1 → a = b := fun ⟨a, _⟩ ⟨b, _⟩ h => by cases h; rfl
  exact this _ _ (by assumption)
theorem impl_areBags_f {k : Nat} (hk : K0 ≤ k) (x : HallT) (p : Int) (l : List (Int × Unit)) (hx : x.2.2.2.2.2.2.2.2.2.2.2.2.2.2.2.2.1.length ≤ 1048576) (hl : l.length ≤ 1048576) : impl_areBags.f k x p l = some (dc (sortL l = atR x.2.2.2.2.2.2.2.2.2.2.2.2.2.2.2.2.1 p x.2.2.2.2.2.2.2.2.2.2.2.2.2.2.2.2.1.length), sortL l, ()) := by
  unfold impl_areBags.f
  have h1 := impl_at_f hk x p hx
  have h2 := slices_Equal_int_int_f hk (sortL l) (atR x.2.2.2.2.2.2.2.2.2.2.2.2.2.2.2.2.1 p x.2.2.2.2.2.2.2.2.2.2.2.2.2.2.2.2.1.length) (by rw [sortL_length]; exact hl)
  simp (disch := omega) only [lett_e, bnd_s, bnd_chk, br_not, br_t, br_f, br_T, br_F, not_true_eq_false, not_false_eq_true, chk_T, chk_F, chk_eq, eqI_dc, ltI_dc, leI_dc, eqN_dc, notB_dc, andB_dc, andB_t, eqB_dc, notB_t, notB_f, inR_dc, upR_dc, ln_e, app_e, tk_e, dp_e, upd_e, repl_e, natI_n, br_pos, br_neg, addI_n, fitN_T, sortI_e k hl, h1, h2]
/-! ### The check of a hall -/
def beltB (l : List Item) : List (Int × Unit) := l.map fun y => (y.1, ())
theorem beltB_s {l : List Item} {i : Nat} (h : i < l.length) : beltB (l.take (i + 1)) = beltB (l.take i) ++ [((rdP (0, 0, 0, ()) l i).1, ())] := by
  rw [take_s (d := (0, 0, 0, ())) h, beltB, List.map_append]; rfl
def HallI (x : HallT) : Prop := (0 ≤ x.1 ∧ x.1 ≤ 100000) ∧ PolicyP x.2.1 ∧ ((60 ≤ x.2.2.1 ∧ x.2.2.1 ≤ 2000) ∧ 1 ≤ x.2.2.2.1 ∧ x.2.2.2.1 ≤ 40) ∧ BeltP (x.2.2.2.2.1, x.2.2.2.2.2.1, x.2.2.2.2.2.2.1, x.2.2.2.2.2.2.2.1, ()) ∧ LoopP (x.2.2.2.2.2.2.2.2.1, x.2.2.2.2.2.2.2.2.2.1, x.2.2.2.2.2.2.2.2.2.2.1, x.2.2.2.2.2.2.2.2.2.2.2.1, ()) ∧ StoreP (x.2.2.2.2.2.2.2.2.2.2.2.2.1, x.2.2.2.2.2.2.2.2.2.2.2.2.2.1, ()) ∧ NotesP x.2.2.2.2.2.2.2.2.2.2.2.2.2.2.1 ∧
  (x.2.2.2.2.2.2.2.2.2.2.2.2.2.2.2.1.length ≤ 20 ∧ ∀ f ∈ x.2.2.2.2.2.2.2.2.2.2.2.2.2.2.2.1, FlightP x.2.2.2.2.2.2.2.2.2.2.1.length f) ∧ x.2.2.2.2.2.2.2.2.2.2.2.2.2.2.2.2.1.length ≤ 60 ∧ (∀ i, i < x.2.2.2.2.2.2.2.2.2.2.2.2.2.2.2.2.1.length → IsCaseP x (rdP cd0 x.2.2.2.2.2.2.2.2.2.2.2.2.2.2.2.2.1 i) ∧ ∀ j, j < i → ¬ ((rdP cd0 x.2.2.2.2.2.2.2.2.2.2.2.2.2.2.2.2.1 j).1 = (rdP cd0 x.2.2.2.2.2.2.2.2.2.2.2.2.2.2.2.2.1 i).1 ∧ (rdP cd0 x.2.2.2.2.2.2.2.2.2.2.2.2.2.2.2.2.1 j).2.1 = (rdP cd0 x.2.2.2.2.2.2.2.2.2.2.2.2.2.2.2.2.1 i).2.1 ∧ (rdP cd0 x.2.2.2.2.2.2.2.2.2.2.2.2.2.2.2.2.1 j).2.2.1 = (rdP cd0 x.2.2.2.2.2.2.2.2.2.2.2.2.2.2.2.2.1 i).2.2.1)) ∧
  sortL (beltB x.2.2.2.2.2.2.2.1) = atR x.2.2.2.2.2.2.2.2.2.2.2.2.2.2.2.2.1 1 x.2.2.2.2.2.2.2.2.2.2.2.2.2.2.2.2.1.length ∧ sortL (nz x.2.2.2.2.2.2.2.2.1) = atR x.2.2.2.2.2.2.2.2.2.2.2.2.2.2.2.2.1 3 x.2.2.2.2.2.2.2.2.2.2.2.2.2.2.2.2.1.length ∧ sortL (inCh x.2.2.2.2.2.2.2.2.2.2.1) = atR x.2.2.2.2.2.2.2.2.2.2.2.2.2.2.2.2.1 4 x.2.2.2.2.2.2.2.2.2.2.2.2.2.2.2.2.1.length ∧ sortL (bagsS x.2.2.2.2.2.2.2.2.2.2.2.2.2.1) = atR x.2.2.2.2.2.2.2.2.2.2.2.2.2.2.2.2.1 5 x.2.2.2.2.2.2.2.2.2.2.2.2.2.2.2.2.1.length
/-- the sizes of a hall's lists, whole -/
structure SzT (x : HallT) : Prop extends SzH x where
  allBags : (nz x.2.2.2.2.2.2.2.2.1).length + (inCh x.2.2.2.2.2.2.2.2.2.2.1).length ≤ 1048576
  allKept : (bagsS x.2.2.2.2.2.2.2.2.2.2.2.2.2.1).length ≤ 1048576
theorem impl_HallOk_f {k : Nat} (hk : K0 ≤ k) (x : HallT) (hs : SzT x) : impl_HallOk.f k x = chkP (HallI x) := by
  have hk' := hk
  unfold K0 at hk
  have hfl := hs.flights
  have hca := hs.cases_
  have hit := hs.items
  have htr := hs.trays
  have hch := hs.chutes
  have hla := hs.lanes
  have hab := hs.allBags
  have hak := hs.allKept
  have hchl : (inCh x.2.2.2.2.2.2.2.2.2.2.1).length ≤ 1048576 := by omega
  have hnz : (nz x.2.2.2.2.2.2.2.2.1).length ≤ 1048576 := by omega
  have hbel : (beltB x.2.2.2.2.2.2.2.1).length ≤ 1048576 := by simpa [beltB] using hit
  unfold impl_HallOk.f
  have hLo := impl_LoopOk_f hk' (x.2.2.2.2.2.2.2.2.1, x.2.2.2.2.2.2.2.2.2.1, x.2.2.2.2.2.2.2.2.2.2.1, x.2.2.2.2.2.2.2.2.2.2.2.1, ()) htr hch hchl hs.told (by unfold bagsL; rw [List.length_append]; exact hab)
  have hSt := impl_StoreOk_f hk' (x.2.2.2.2.2.2.2.2.2.2.2.2.1, x.2.2.2.2.2.2.2.2.2.2.2.2.2.1, ()) hak
  have hNo := impl_NotesOk_f hk' x.2.2.2.2.2.2.2.2.2.2.2.2.2.2.1 hs.notes
  have hFl := impl_areFlights_f hk' x
  have hCl := slices_Clone_int_int_f k htr
  have hA1 := impl_areBags_f hk' x 1 (beltB x.2.2.2.2.2.2.2.1) hca hbel
  have hA3 := impl_areBags_f hk' x 3 (nz x.2.2.2.2.2.2.2.2.1) hca hnz
  have hA4 := impl_areBags_f hk' x 4 (inCh x.2.2.2.2.2.2.2.2.2.2.1) hca hchl
  have hA5 := impl_areBags_f hk' x 5 (bagsS x.2.2.2.2.2.2.2.2.2.2.2.2.2.1) hca hak
  have hBi := impl_bagsIn_f hk' (x.2.2.2.2.2.2.2.2.2.2.2.2.1, x.2.2.2.2.2.2.2.2.2.2.2.2.2.1, ()) hla hak
  simp (disch := omega) only [lett_e, bnd_s, bnd_chk, br_not, br_t, br_f, br_T, br_F, not_true_eq_false, not_false_eq_true, chk_T, chk_F, chk_eq, eqI_dc, ltI_dc, leI_dc, eqN_dc, notB_dc, andB_dc, andB_t, eqB_dc, notB_t, notB_f, inR_dc, upR_dc, ln_e, app_e, tk_e, dp_e, upd_e, repl_e, natI_n, br_pos, br_neg, addI_n, fitN_T, impl_isTick_f, impl_PolicyOk_f hk' (x.2.1, ()), impl_LimitsOk_f, impl_BeltOk_f hk', hLo, hSt, hNo, hFl, hCl]
  by_cases hc60 : x.2.2.2.2.2.2.2.2.2.2.2.2.2.2.2.2.1.length ≤ 60
  case neg =>
    simp (disch := omega) only [lett_e, bnd_s, bnd_chk, br_not, br_t, br_f, br_T, br_F, not_true_eq_false, not_false_eq_true, chk_T, chk_F, chk_eq, eqI_dc, ltI_dc, leI_dc, eqN_dc, notB_dc, andB_dc, andB_t, eqB_dc, notB_t, notB_f, inR_dc, upR_dc, ln_e, app_e, tk_e, dp_e, upd_e, repl_e, natI_n, br_pos, br_neg, addI_n, fitN_T, br_chkF']
    exact chk_congr ⟨fun z => z.2.2.2.2.2.2.2.2.elim, fun z => absurd z.2.2.2.2.2.2.2.2.1 hc60⟩
  simp (disch := omega) only [lett_e, bnd_s, bnd_chk, br_not, br_t, br_f, br_T, br_F, not_true_eq_false, not_false_eq_true, chk_T, chk_F, chk_eq, eqI_dc, ltI_dc, leI_dc, eqN_dc, notB_dc, andB_dc, andB_t, eqB_dc, notB_t, notB_f, inR_dc, upR_dc, ln_e, app_e, tk_e, dp_e, upd_e, repl_e, natI_n, br_pos, br_neg, addI_n, fitN_T]
  rw [loop_while (n := x.2.2.2.2.2.2.2.2.2.2.2.2.2.2.2.2.1.length) (r := chkP False) (e := chkP (sortL (beltB x.2.2.2.2.2.2.2.1) = atR x.2.2.2.2.2.2.2.2.2.2.2.2.2.2.2.2.1 1 x.2.2.2.2.2.2.2.2.2.2.2.2.2.2.2.2.1.length ∧ sortL (nz x.2.2.2.2.2.2.2.2.1) = atR x.2.2.2.2.2.2.2.2.2.2.2.2.2.2.2.2.1 3 x.2.2.2.2.2.2.2.2.2.2.2.2.2.2.2.2.1.length ∧ sortL (inCh x.2.2.2.2.2.2.2.2.2.2.1) = atR x.2.2.2.2.2.2.2.2.2.2.2.2.2.2.2.2.1 4 x.2.2.2.2.2.2.2.2.2.2.2.2.2.2.2.2.1.length ∧ sortL (bagsS x.2.2.2.2.2.2.2.2.2.2.2.2.2.1) = atR x.2.2.2.2.2.2.2.2.2.2.2.2.2.2.2.2.1 5 x.2.2.2.2.2.2.2.2.2.2.2.2.2.2.2.2.1.length)) (fun i => ((i : Int), ())) (fun i => IsCaseP x (rdP cd0 x.2.2.2.2.2.2.2.2.2.2.2.2.2.2.2.2.1 i) ∧ ∀ j, j < i → ¬ ((rdP cd0 x.2.2.2.2.2.2.2.2.2.2.2.2.2.2.2.2.1 j).1 = (rdP cd0 x.2.2.2.2.2.2.2.2.2.2.2.2.2.2.2.2.1 i).1 ∧ (rdP cd0 x.2.2.2.2.2.2.2.2.2.2.2.2.2.2.2.2.1 j).2.1 = (rdP cd0 x.2.2.2.2.2.2.2.2.2.2.2.2.2.2.2.2.1 i).2.1 ∧ (rdP cd0 x.2.2.2.2.2.2.2.2.2.2.2.2.2.2.2.2.1 j).2.2.1 = (rdP cd0 x.2.2.2.2.2.2.2.2.2.2.2.2.2.2.2.2.1 i).2.2.1)) ?h0 ?hs0 ?he0 ?hk0]
  case h0 => simp
  case hk0 => omega
  case hs0 =>
    intro i hi _ rec
    have h1 := impl_isCase_f k x (rdP cd0 x.2.2.2.2.2.2.2.2.2.2.2.2.2.2.2.2.1 i) hfl
    have h2 := impl_hasTag_f hk' (x.2.2.2.2.2.2.2.2.2.2.2.2.2.2.2.2.1.take i) ((rdP cd0 x.2.2.2.2.2.2.2.2.2.2.2.2.2.2.2.2.1 i).1, (rdP cd0 x.2.2.2.2.2.2.2.2.2.2.2.2.2.2.2.2.1 i).2.1, (rdP cd0 x.2.2.2.2.2.2.2.2.2.2.2.2.2.2.2.2.1 i).2.2.1, ()) (by rw [List.length_take]; omega)
    simp (disch := omega) only [lett_e, bnd_s, bnd_chk, br_not, br_t, br_f, br_T, br_F, not_true_eq_false, not_false_eq_true, chk_T, chk_F, chk_eq, eqI_dc, ltI_dc, leI_dc, eqN_dc, notB_dc, andB_dc, andB_t, eqB_dc, notB_t, notB_f, inR_dc, upR_dc, ln_e, app_e, tk_e, dp_e, upd_e, repl_e, natI_n, br_pos, br_neg, addI_n, fitN_T, h1, h2]
    rw [mem_take_rd (d := cd0) (by omega)]
    simp only [g1, g2]
    exact br_iff' (by grind) (fun _ => rfl)
  case he0 =>
    intro _ rec
    simp (disch := omega) only [lett_e, bnd_s, bnd_chk, br_not, br_t, br_f, br_T, br_F, not_true_eq_false, not_false_eq_true, chk_T, chk_F, chk_eq, eqI_dc, ltI_dc, leI_dc, eqN_dc, notB_dc, andB_dc, andB_t, eqB_dc, notB_t, notB_f, inR_dc, upR_dc, ln_e, app_e, tk_e, dp_e, upd_e, repl_e, natI_n, br_pos, br_neg, addI_n, fitN_T]
    rw [loop_run (n := x.2.2.2.2.2.2.2.1.length) (r := chkP (sortL (beltB x.2.2.2.2.2.2.2.1) = atR x.2.2.2.2.2.2.2.2.2.2.2.2.2.2.2.2.1 1 x.2.2.2.2.2.2.2.2.2.2.2.2.2.2.2.2.1.length ∧ sortL (nz x.2.2.2.2.2.2.2.2.1) = atR x.2.2.2.2.2.2.2.2.2.2.2.2.2.2.2.2.1 3 x.2.2.2.2.2.2.2.2.2.2.2.2.2.2.2.2.1.length ∧ sortL (inCh x.2.2.2.2.2.2.2.2.2.2.1) = atR x.2.2.2.2.2.2.2.2.2.2.2.2.2.2.2.2.1 4 x.2.2.2.2.2.2.2.2.2.2.2.2.2.2.2.2.1.length ∧ sortL (bagsS x.2.2.2.2.2.2.2.2.2.2.2.2.2.1) = atR x.2.2.2.2.2.2.2.2.2.2.2.2.2.2.2.2.1 5 x.2.2.2.2.2.2.2.2.2.2.2.2.2.2.2.2.1.length)) (fun i => (beltB (x.2.2.2.2.2.2.2.1.take i), (i : Int), ())) ?h1 ?hs1 ?he1 ?hk1]
    case h1 => simp [beltB]
    case hk1 => omega
    case hs1 =>
      intro i hi rec
      have hf := fitL_T (l := beltB (x.2.2.2.2.2.2.2.1.take i)) (m := [((rdP (0, 0, 0, ()) x.2.2.2.2.2.2.2.1 i).1, ())]) (by simp [beltB]; omega)
      simp (disch := omega) only [lett_e, bnd_s, bnd_chk, br_not, br_t, br_f, br_T, br_F, not_true_eq_false, not_false_eq_true, chk_T, chk_F, chk_eq, eqI_dc, ltI_dc, leI_dc, eqN_dc, notB_dc, andB_dc, andB_t, eqB_dc, notB_t, notB_f, inR_dc, upR_dc, ln_e, app_e, tk_e, dp_e, upd_e, repl_e, natI_n, br_pos, br_neg, addI_n, fitN_T, hf]
      rw [beltB_s hi]
      rfl
    case he1 =>
      intro rec
      simp (disch := omega) only [lett_e, bnd_s, bnd_chk, br_not, br_t, br_f, br_T, br_F, not_true_eq_false, not_false_eq_true, chk_T, chk_F, chk_eq, eqI_dc, ltI_dc, leI_dc, eqN_dc, notB_dc, andB_dc, andB_t, eqB_dc, notB_t, notB_f, inR_dc, upR_dc, ln_e, app_e, tk_e, dp_e, upd_e, repl_e, natI_n, br_pos, br_neg, addI_n, fitN_T, List.take_length]
      rw [loop_run (n := x.2.2.2.2.2.2.2.2.2.2.1.length) (r := chkP (sortL (beltB x.2.2.2.2.2.2.2.1) = atR x.2.2.2.2.2.2.2.2.2.2.2.2.2.2.2.2.1 1 x.2.2.2.2.2.2.2.2.2.2.2.2.2.2.2.2.1.length ∧ sortL (nz x.2.2.2.2.2.2.2.2.1) = atR x.2.2.2.2.2.2.2.2.2.2.2.2.2.2.2.2.1 3 x.2.2.2.2.2.2.2.2.2.2.2.2.2.2.2.2.1.length ∧ sortL (inCh x.2.2.2.2.2.2.2.2.2.2.1) = atR x.2.2.2.2.2.2.2.2.2.2.2.2.2.2.2.2.1 4 x.2.2.2.2.2.2.2.2.2.2.2.2.2.2.2.2.1.length ∧ sortL (bagsS x.2.2.2.2.2.2.2.2.2.2.2.2.2.1) = atR x.2.2.2.2.2.2.2.2.2.2.2.2.2.2.2.2.1 5 x.2.2.2.2.2.2.2.2.2.2.2.2.2.2.2.2.1.length)) (fun i => (inCh (x.2.2.2.2.2.2.2.2.2.2.1.take i), (i : Int), ())) ?h2 ?hs2 ?he2 ?hk2]
      case h2 => simp [inCh]
      case hk2 => omega
      case hs2 =>
        intro i hi rec
        have h1 := inCh_take (l := x.2.2.2.2.2.2.2.2.2.2.1) (i := i + 1)
        rw [inCh_s hi, List.length_append] at h1
        have hf := fitL_T (l := inCh (x.2.2.2.2.2.2.2.2.2.2.1.take i)) (m := (rdP (0, 0, [], ()) x.2.2.2.2.2.2.2.2.2.2.1 i).2.2.1) (by omega)
        simp (disch := omega) only [lett_e, bnd_s, bnd_chk, br_not, br_t, br_f, br_T, br_F, not_true_eq_false, not_false_eq_true, chk_T, chk_F, chk_eq, eqI_dc, ltI_dc, leI_dc, eqN_dc, notB_dc, andB_dc, andB_t, eqB_dc, notB_t, notB_f, inR_dc, upR_dc, ln_e, app_e, tk_e, dp_e, upd_e, repl_e, natI_n, br_pos, br_neg, addI_n, fitN_T, hf]
        rw [inCh_s hi]
        rfl
      case he2 =>
        intro rec
        simp (disch := omega) only [lett_e, bnd_s, bnd_chk, br_not, br_t, br_f, br_T, br_F, not_true_eq_false, not_false_eq_true, chk_T, chk_F, chk_eq, eqI_dc, ltI_dc, leI_dc, eqN_dc, notB_dc, andB_dc, andB_t, eqB_dc, notB_t, notB_f, inR_dc, upR_dc, ln_e, app_e, tk_e, dp_e, upd_e, repl_e, natI_n, br_pos, br_neg, addI_n, fitN_T, List.take_length]
        refine del_nz (F2 := ?F2) hk' x.2.2.2.2.2.2.2.2.1 htr (fun c => chkP (sortL (beltB x.2.2.2.2.2.2.2.1) = atR x.2.2.2.2.2.2.2.2.2.2.2.2.2.2.2.2.1 1 x.2.2.2.2.2.2.2.2.2.2.2.2.2.2.2.2.1.length ∧ sortL c = atR x.2.2.2.2.2.2.2.2.2.2.2.2.2.2.2.2.1 3 x.2.2.2.2.2.2.2.2.2.2.2.2.2.2.2.2.1.length ∧ sortL (inCh x.2.2.2.2.2.2.2.2.2.2.1) = atR x.2.2.2.2.2.2.2.2.2.2.2.2.2.2.2.2.1 4 x.2.2.2.2.2.2.2.2.2.2.2.2.2.2.2.2.1.length ∧ sortL (bagsS x.2.2.2.2.2.2.2.2.2.2.2.2.2.1) = atR x.2.2.2.2.2.2.2.2.2.2.2.2.2.2.2.2.1 5 x.2.2.2.2.2.2.2.2.2.2.2.2.2.2.2.2.1.length)) ?f1 ?e1 ?f2 ?e2
        case f1 => intro i rec hi; simp (disch := omega) only [lett_e, bnd_s, bnd_chk, br_not, br_t, br_f, br_T, br_F, not_true_eq_false, not_false_eq_true, chk_T, chk_F, chk_eq, eqI_dc, ltI_dc, leI_dc, eqN_dc, notB_dc, andB_dc, andB_t, eqB_dc, notB_t, notB_f, inR_dc, upR_dc, ln_e, app_e, tk_e, dp_e, upd_e, repl_e, natI_n, br_pos, br_neg, addI_n, fitN_T]; rfl
        case e1 =>
          intro rec
          have h3 := impl_areBags_f hk' x 3 x.2.2.2.2.2.2.2.2.1 hca htr
          simp (disch := omega) only [lett_e, bnd_s, bnd_chk, br_not, br_t, br_f, br_T, br_F, not_true_eq_false, not_false_eq_true, chk_T, chk_F, chk_eq, eqI_dc, ltI_dc, leI_dc, eqN_dc, notB_dc, andB_dc, andB_t, eqB_dc, notB_t, notB_f, inR_dc, upR_dc, ln_e, app_e, tk_e, dp_e, upd_e, repl_e, natI_n, br_pos, br_neg, addI_n, fitN_T, hA1, h3, hA4, hBi, hA5, br_chkF']
        case f2 =>
          intro c i j rec hc hij hj
          by_cases hz : (rdP (0, ()) c j).1 = 0
          · simp (disch := omega) only [lett_e, bnd_s, bnd_chk, br_not, br_t, br_f, br_T, br_F, not_true_eq_false, not_false_eq_true, chk_T, chk_F, chk_eq, eqI_dc, ltI_dc, leI_dc, eqN_dc, notB_dc, andB_dc, andB_t, eqB_dc, notB_t, notB_f, inR_dc, upR_dc, ln_e, app_e, tk_e, dp_e, upd_e, repl_e, natI_n, br_pos, br_neg, addI_n, fitN_T]; rfl
          · simp (disch := omega) only [lett_e, bnd_s, bnd_chk, br_not, br_t, br_f, br_T, br_F, not_true_eq_false, not_false_eq_true, chk_T, chk_F, chk_eq, eqI_dc, ltI_dc, leI_dc, eqN_dc, notB_dc, andB_dc, andB_t, eqB_dc, notB_t, notB_f, inR_dc, upR_dc, ln_e, app_e, tk_e, dp_e, upd_e, repl_e, natI_n, br_pos, br_neg, addI_n, fitN_T]; rfl
        case e2 =>
          intro c i rec hc hi
          have hd2 : (c.take i ++ List.replicate (c.drop i).length ((0 : Int), ())).length = c.length := by simp; omega
          have h3 := impl_areBags_f hk' x 3 (c.take i) hca (by rw [List.length_take]; omega)
          simp (disch := omega) only [lett_e, bnd_s, bnd_chk, br_not, br_t, br_f, br_T, br_F, not_true_eq_false, not_false_eq_true, chk_T, chk_F, chk_eq, eqI_dc, ltI_dc, leI_dc, eqN_dc, notB_dc, andB_dc, andB_t, eqB_dc, notB_t, notB_f, inR_dc, upR_dc, ln_e, app_e, tk_e, dp_e, upd_e, repl_e, natI_n, br_pos, br_neg, addI_n, fitN_T, hd2]
          rw [List.take_left' (by rw [List.length_take]; omega)]
          simp (disch := omega) only [lett_e, bnd_s, bnd_chk, br_not, br_t, br_f, br_T, br_F, not_true_eq_false, not_false_eq_true, chk_T, chk_F, chk_eq, eqI_dc, ltI_dc, leI_dc, eqN_dc, notB_dc, andB_dc, andB_t, eqB_dc, notB_t, notB_f, inR_dc, upR_dc, ln_e, app_e, tk_e, dp_e, upd_e, repl_e, natI_n, br_pos, br_neg, addI_n, fitN_T, hA1, h3, hA4, hBi, hA5, br_chkF']
  simp (disch := omega) only [lett_e, bnd_s, bnd_chk, br_not, br_t, br_f, br_T, br_F, not_true_eq_false, not_false_eq_true, chk_T, chk_F, chk_eq, eqI_dc, ltI_dc, leI_dc, eqN_dc, notB_dc, andB_dc, andB_t, eqB_dc, notB_t, notB_f, inR_dc, upR_dc, ln_e, app_e, tk_e, dp_e, upd_e, repl_e, natI_n, br_pos, br_neg, addI_n, fitN_T, br_chkF']
  exact chk_congr (by unfold HallI; grind)
end Go.Proofs.YtpihkhknehadbaaGreat.Eng
