/- What the reference's check of a hall says. No condition. -/
import Derived.Test.YtpihkhknehadbaaGreatPSpec2
namespace Go.Proofs.YtpihkhknehadbaaGreat.Eng
set_option linter.unusedVariables false
set_option linter.unusedSimpArgs false
abbrev FlightT := Int × Int × Int × Bool × Int × Unit
abbrev CaseT := Int × Int × Int × Int × Int × Int × Int × Int × Int × Int × Unit
abbrev HallT := Int × List (Int × Unit) × Int × Int × Int × Int × Bool × List Item × List (Int × Unit) × Int × List Chute × List Want × Int × List (List Kept × Unit) × List NoteT × List FlightT × List CaseT × Unit
abbrev cd0 : CaseT := (0, 0, 0, 0, 0, 0, 0, 0, 0, 0, ())
abbrev fd0 : FlightT := (0, 0, 0, false, 0, ())
def FlightP (n : Nat) (f : FlightT) : Prop := 0 ≤ f.1 ∧ f.1 ≤ f.2.1 ∧ f.2.1 ≤ 100000 ∧ (0 ≤ f.2.2.1 ∧ f.2.2.1 < n) ∧ (f.2.2.2.2.1 = 0 ∨ (f.2.2.2.1 = true ∧ 0 ≤ f.2.2.2.2.1 ∧ f.2.2.2.2.1 ≤ 40))
theorem spec_l09FlightOk_f (k : Nat) (x : HallT) (f : FlightT) (hx : x.2.2.2.2.2.2.2.2.2.2.1.length ≤ 1048576) : spec_l09FlightOk.f k x f = chkP (FlightP x.2.2.2.2.2.2.2.2.2.2.1.length f) := by
  unfold spec_l09FlightOk.f
  rw [dc_bool f.2.2.2.1]
  rw [subI_id (by rw [ln_e]; omega)]
  simp (disch := omega) only [lett_e, bnd_s, bnd_chk, br_not, br_t, br_f, br_T, br_F, not_true_eq_false, not_false_eq_true, chk_T, chk_F, chk_eq, eqI_dc, ltI_dc, leI_dc, eqN_dc, notB_dc, andB_dc, andB_t, eqB_dc, notB_t, notB_f, inR_dc, upR_dc, ln_e, app_e, tk_e, dp_e, upd_e, repl_e, natI_n, br_pos, br_neg, addI_n, fitN_T, spec_l01In_f, br_chkF, br_chkF', br_chkT, br_chk]
  exact chk_congr (by unfold FlightP; grind)
def TagP (t : Int × Int × Int × Unit) : Prop := (0 ≤ t.1 ∧ t.1 ≤ 9) ∧ (1 ≤ t.2.1 ∧ t.2.1 ≤ 999) ∧ (0 ≤ t.2.2.1 ∧ t.2.2.1 ≤ 999999)
theorem spec_TagOk_f (k : Nat) (t : Int × Int × Int × Unit) : spec_TagOk.f k t = chkP (TagP t) := by
  unfold spec_TagOk.f
  simp (disch := omega) only [lett_e, bnd_s, bnd_chk, br_not, br_t, br_f, br_T, br_F, not_true_eq_false, not_false_eq_true, chk_T, chk_F, chk_eq, eqI_dc, ltI_dc, leI_dc, eqN_dc, notB_dc, andB_dc, andB_t, eqB_dc, notB_t, notB_f, inR_dc, upR_dc, ln_e, app_e, tk_e, dp_e, upd_e, repl_e, natI_n, br_pos, br_neg, addI_n, fitN_T, spec_l01In_f, br_chkF, br_chkF', br_chkT, br_chk]
  exact chk_congr (by unfold TagP; grind)
def ScreenP (s : Int × Int × Int × Unit) : Prop := (1 ≤ s.1 ∧ s.1 ≤ 4) ∧ (0 ≤ s.2.1 ∧ s.2.1 ≤ 100000) ∧ (s.2.2.1 = 0 ∨ s.2.2.1 = 1 ∨ (s.2.2.1 = 2 ∧ s.1 = 4))
theorem spec_ScreenOk_f (k : Nat) (s : Int × Int × Int × Unit) : spec_ScreenOk.f k s = chkP (ScreenP s) := by
  unfold spec_ScreenOk.f
  simp (disch := omega) only [lett_e, bnd_s, bnd_chk, br_not, br_t, br_f, br_T, br_F, not_true_eq_false, not_false_eq_true, chk_T, chk_F, chk_eq, eqI_dc, ltI_dc, leI_dc, eqN_dc, notB_dc, andB_dc, andB_t, eqB_dc, notB_t, notB_f, inR_dc, upR_dc, ln_e, app_e, tk_e, dp_e, upd_e, repl_e, natI_n, br_pos, br_neg, addI_n, fitN_T, spec_l01In_f, br_chkF, br_chkF', br_chkT, br_chk]
  exact chk_congr (by unfold ScreenP; grind)
theorem spec_l09OnBelt_f {k : Nat} (hk : K0 ≤ k) (x : HallT) (a : Int) (hx : x.2.2.2.2.2.2.2.1.length ≤ 1048576) : spec_l09OnBelt.f k x a = chkP (∃ y, y ∈ x.2.2.2.2.2.2.2.1 ∧ y.1 = a) := by
  unfold K0 at hk
  unfold spec_l09OnBelt.f
  rw [loop_any (n := x.2.2.2.2.2.2.2.1.length) (r := chkP True) (e := chkP False) (fun i => ((i : Int), ())) (fun i => (rdP (0, 0, 0, ()) x.2.2.2.2.2.2.2.1 i).1 = a) ?h0 ?hk ?hs ?he]
  case h0 => simp
  case hk => omega
  case hs => intro i hi _ rec; simp (disch := omega) only [lett_e, bnd_s, bnd_chk, br_not, br_t, br_f, br_T, br_F, not_true_eq_false, not_false_eq_true, chk_T, chk_F, chk_eq, eqI_dc, ltI_dc, leI_dc, eqN_dc, notB_dc, andB_dc, andB_t, eqB_dc, notB_t, notB_f, inR_dc, upR_dc, ln_e, app_e, tk_e, dp_e, upd_e, repl_e, natI_n, br_pos, br_neg, addI_n, fitN_T]; rfl
  case he => intro _ rec; simp (disch := omega) only [lett_e, bnd_s, bnd_chk, br_not, br_t, br_f, br_T, br_F, not_true_eq_false, not_false_eq_true, chk_T, chk_F, chk_eq, eqI_dc, ltI_dc, leI_dc, eqN_dc, notB_dc, andB_dc, andB_t, eqB_dc, notB_t, notB_f, inR_dc, upR_dc, ln_e, app_e, tk_e, dp_e, upd_e, repl_e, natI_n, br_pos, br_neg, addI_n, fitN_T]
  simp (disch := omega) only [lett_e, bnd_s, bnd_chk, br_not, br_t, br_f, br_T, br_F, not_true_eq_false, not_false_eq_true, chk_T, chk_F, chk_eq, eqI_dc, ltI_dc, leI_dc, eqN_dc, notB_dc, andB_dc, andB_t, eqB_dc, notB_t, notB_f, inR_dc, upR_dc, ln_e, app_e, tk_e, dp_e, upd_e, repl_e, natI_n, br_pos, br_neg, addI_n, fitN_T, br_chkF']
  exact chk_congr (by rw [ex_rd (P := fun y : Item => y.1 = a), and_true])
theorem spec_l09Chute_f {k : Nat} (hk : K0 ≤ k) (x : HallT) (a : Int) (hx : x.2.2.2.2.2.2.2.2.2.2.1.length ≤ 1048576) (hb : ∀ c ∈ x.2.2.2.2.2.2.2.2.2.2.1, c.2.2.1.length ≤ 1048576) :
    (∃ i, i < x.2.2.2.2.2.2.2.2.2.2.1.length ∧ (a, ()) ∈ (rdP (0, 0, [], ()) x.2.2.2.2.2.2.2.2.2.2.1 i).2.2.1 ∧ (∀ j, j < i → (a, ()) ∉ (rdP (0, 0, [], ()) x.2.2.2.2.2.2.2.2.2.2.1 j).2.2.1) ∧ spec_l09Chute.f k x a = some ((i : Int), ())) ∨
    ((∀ j, j < x.2.2.2.2.2.2.2.2.2.2.1.length → (a, ()) ∉ (rdP (0, 0, [], ()) x.2.2.2.2.2.2.2.2.2.2.1 j).2.2.1) ∧ spec_l09Chute.f k x a = some (-1, ())) := by
  have hk' := hk
  unfold K0 at hk
  unfold spec_l09Chute.f
  refine loop_find (n := x.2.2.2.2.2.2.2.2.2.2.1.length) (e := some (-1, ())) (fun i => ((i : Int), ())) (fun i => (a, ()) ∈ (rdP (0, 0, [], ()) x.2.2.2.2.2.2.2.2.2.2.1 i).2.2.1) (fun i => some ((i : Int), ())) ?h0 ?hk ?hs ?he
  case h0 => simp
  case hk => omega
  case hs =>
    intro i hi _ rec
    have := hb _ (by rw [rd_lt hi]; exact List.getElem_mem hi : rdP (0, 0, [], ()) x.2.2.2.2.2.2.2.2.2.2.1 i ∈ x.2.2.2.2.2.2.2.2.2.2.1)
    simp (disch := omega) only [lett_e, bnd_s, bnd_chk, br_not, br_t, br_f, br_T, br_F, not_true_eq_false, not_false_eq_true, chk_T, chk_F, chk_eq, eqI_dc, ltI_dc, leI_dc, eqN_dc, notB_dc, andB_dc, andB_t, eqB_dc, notB_t, notB_f, inR_dc, upR_dc, ln_e, app_e, tk_e, dp_e, upd_e, repl_e, natI_n, br_pos, br_neg, addI_n, fitN_T, spec_l03Has_f hk' _ _ this]
    rfl
  case he => intro _ rec; simp (disch := omega) only [lett_e, bnd_s, bnd_chk, br_not, br_t, br_f, br_T, br_F, not_true_eq_false, not_false_eq_true, chk_T, chk_F, chk_eq, eqI_dc, ltI_dc, leI_dc, eqN_dc, notB_dc, andB_dc, andB_t, eqB_dc, notB_t, notB_f, inR_dc, upR_dc, ln_e, app_e, tk_e, dp_e, upd_e, repl_e, natI_n, br_pos, br_neg, addI_n, fitN_T]
theorem spec_l06Find_f {k : Nat} (hk : K0 ≤ k) (x : StoreT) (a : Int) (hx : x.2.1.length ≤ 1048576) (hb : ∀ c ∈ x.2.1, c.1.length ≤ 1048576) :
    (∃ i, i < x.2.1.length ∧ (∃ y, y ∈ (rdP ([], ()) x.2.1 i).1 ∧ y.1 = a) ∧ (∀ j, j < i → ¬ ∃ y, y ∈ (rdP ([], ()) x.2.1 j).1 ∧ y.1 = a) ∧ spec_l06Find.f k x a = some ((i : Int), ())) ∨
    ((∀ j, j < x.2.1.length → ¬ ∃ y, y ∈ (rdP ([], ()) x.2.1 j).1 ∧ y.1 = a) ∧ spec_l06Find.f k x a = some (-1, ())) := by
  have hk' := hk
  unfold K0 at hk
  unfold spec_l06Find.f
  refine loop_find (n := x.2.1.length) (e := some (-1, ())) (fun i => ((i : Int), ())) (fun i => ∃ y, y ∈ (rdP ([], ()) x.2.1 i).1 ∧ y.1 = a) (fun i => some ((i : Int), ())) ?h0 ?hk ?hs ?he
  case h0 => simp
  case hk => omega
  case hs =>
    intro i hi _ rec
    have := hb _ (by rw [rd_lt hi]; exact List.getElem_mem hi : rdP ([], ()) x.2.1 i ∈ x.2.1)
    simp (disch := omega) only [lett_e, bnd_s, bnd_chk, br_not, br_t, br_f, br_T, br_F, not_true_eq_false, not_false_eq_true, chk_T, chk_F, chk_eq, eqI_dc, ltI_dc, leI_dc, eqN_dc, notB_dc, andB_dc, andB_t, eqB_dc, notB_t, notB_f, inR_dc, upR_dc, ln_e, app_e, tk_e, dp_e, upd_e, repl_e, natI_n, br_pos, br_neg, addI_n, fitN_T]
    rw [loop_any (n := (rdP ([], ()) x.2.1 i).1.length) (r := some ((i : Int), ())) (e := rec (((i + 1 : Nat) : Int), ())) (fun i => ((i : Int), ())) (fun j => (rdP (0, 0, ()) (rdP ([], ()) x.2.1 i).1 j).1 = a) ?h1 ?hk1 ?hs1 ?he1]
    case h1 => simp
    case hk1 => omega
    case hs1 => intro j hj _ rec2; simp (disch := omega) only [lett_e, bnd_s, bnd_chk, br_not, br_t, br_f, br_T, br_F, not_true_eq_false, not_false_eq_true, chk_T, chk_F, chk_eq, eqI_dc, ltI_dc, leI_dc, eqN_dc, notB_dc, andB_dc, andB_t, eqB_dc, notB_t, notB_f, inR_dc, upR_dc, ln_e, app_e, tk_e, dp_e, upd_e, repl_e, natI_n, br_pos, br_neg, addI_n, fitN_T]; rfl
    case he1 => intro _ rec2; simp (disch := omega) only [lett_e, bnd_s, bnd_chk, br_not, br_t, br_f, br_T, br_F, not_true_eq_false, not_false_eq_true, chk_T, chk_F, chk_eq, eqI_dc, ltI_dc, leI_dc, eqN_dc, notB_dc, andB_dc, andB_t, eqB_dc, notB_t, notB_f, inR_dc, upR_dc, ln_e, app_e, tk_e, dp_e, upd_e, repl_e, natI_n, br_pos, br_neg, addI_n, fitN_T]; rfl
    exact br_iff (ex_rd (P := fun y : Kept => y.1 = a)) _ _
  case he => intro _ rec; simp (disch := omega) only [lett_e, bnd_s, bnd_chk, br_not, br_t, br_f, br_T, br_F, not_true_eq_false, not_false_eq_true, chk_T, chk_F, chk_eq, eqI_dc, ltI_dc, leI_dc, eqN_dc, notB_dc, andB_dc, andB_t, eqB_dc, notB_t, notB_f, inR_dc, upR_dc, ln_e, app_e, tk_e, dp_e, upd_e, repl_e, natI_n, br_pos, br_neg, addI_n, fitN_T]
def CaseP (x : HallT) (i : Nat) (e : CaseT) : Prop := TagP (e.1, e.2.1, e.2.2.1, ()) ∧ (1 ≤ e.2.2.2.1 ∧ e.2.2.2.1 ≤ x.2.2.2.2.2.2.2.2.2.2.2.2.2.2.2.1.length) ∧ (1 ≤ e.2.2.2.2.1 ∧ e.2.2.2.2.1 ≤ 60) ∧ (0 ≤ e.2.2.2.2.2.1 ∧ e.2.2.2.2.2.1 ≤ 5) ∧ (1 ≤ e.2.2.2.2.2.2.1 ∧ e.2.2.2.2.2.2.1 ≤ 7) ∧
  (∀ j, j < i → ¬ ((rdP cd0 x.2.2.2.2.2.2.2.2.2.2.2.2.2.2.2.2.1 j).1 = e.1 ∧ (rdP cd0 x.2.2.2.2.2.2.2.2.2.2.2.2.2.2.2.2.1 j).2.1 = e.2.1 ∧ (rdP cd0 x.2.2.2.2.2.2.2.2.2.2.2.2.2.2.2.2.1 j).2.2.1 = e.2.2.1)) ∧
  (if e.2.2.2.2.2.2.1 = 1 then e.2.2.2.2.2.2.2.1 = 0 ∧ e.2.2.2.2.2.2.2.2.1 = 0 ∧ e.2.2.2.2.2.2.2.2.2.1 = 0 else ScreenP (e.2.2.2.2.2.2.2.1, e.2.2.2.2.2.2.2.2.1, e.2.2.2.2.2.2.2.2.2.1, ()) ∧ e.2.2.2.2.2.2.2.2.1 ≤ x.1) ∧
  (e.2.2.2.2.2.2.2.2.2.1 ≠ 1 → e.2.2.2.2.2.2.1 ≠ 3 ∧ e.2.2.2.2.2.2.1 ≠ 4 ∧ e.2.2.2.2.2.2.1 ≠ 5 ∧ e.2.2.2.2.2.2.1 ≠ 6) ∧ ¬ (e.2.2.2.2.2.2.1 = 2 ∧ e.2.2.2.2.2.2.2.2.2.1 = 2) ∧ (e.2.2.2.2.2.2.1 = 6 → (rdP fd0 x.2.2.2.2.2.2.2.2.2.2.2.2.2.2.2.1 (natI (e.2.2.2.1 - 1))).2.2.2.1 = true) ∧
  ((∃ y, y ∈ x.2.2.2.2.2.2.2.1 ∧ y.1 = (i : Int) + 1) ↔ e.2.2.2.2.2.2.1 = 1) ∧ ((((i : Int) + 1, ()) ∈ x.2.2.2.2.2.2.2.2.1) ↔ e.2.2.2.2.2.2.1 = 3) ∧ ((∃ c, c ∈ x.2.2.2.2.2.2.2.2.2.2.1 ∧ ((i : Int) + 1, ()) ∈ c.2.2.1) ↔ e.2.2.2.2.2.2.1 = 4) ∧ ((∃ l, l ∈ x.2.2.2.2.2.2.2.2.2.2.2.2.2.1 ∧ ∃ y, y ∈ l.1 ∧ y.1 = (i : Int) + 1) ↔ e.2.2.2.2.2.2.1 = 5)
/-- the sizes of a hall's lists -/
structure SzH (x : HallT) : Prop where
  wait : x.2.1.length ≤ 1048576
  items : x.2.2.2.2.2.2.2.1.length ≤ 1048576
  trays : x.2.2.2.2.2.2.2.2.1.length ≤ 1048576
  chutes : x.2.2.2.2.2.2.2.2.2.2.1.length ≤ 1048576
  bags : ∀ c ∈ x.2.2.2.2.2.2.2.2.2.2.1, c.2.2.1.length ≤ 1048576
  wants : x.2.2.2.2.2.2.2.2.2.2.2.1.length ≤ 1048576
  told : ∀ w ∈ x.2.2.2.2.2.2.2.2.2.2.2.1, w.2.1.length ≤ 1048576
  lanes : x.2.2.2.2.2.2.2.2.2.2.2.2.2.1.length ≤ 1048576
  kept : ∀ l ∈ x.2.2.2.2.2.2.2.2.2.2.2.2.2.1, l.1.length ≤ 1048576
  notes : x.2.2.2.2.2.2.2.2.2.2.2.2.2.2.1.length ≤ 1048576
  flights : x.2.2.2.2.2.2.2.2.2.2.2.2.2.2.2.1.length ≤ 1048576
  cases_ : x.2.2.2.2.2.2.2.2.2.2.2.2.2.2.2.2.1.length ≤ 1048576
theorem spec_l09CaseOk_f {k : Nat} (hk : K0 ≤ k) (x : HallT) (i : Nat) (hs : SzH x) (hi : i < x.2.2.2.2.2.2.2.2.2.2.2.2.2.2.2.2.1.length) : spec_l09CaseOk.f k x (i : Int) = chkP (CaseP x i (rdP cd0 x.2.2.2.2.2.2.2.2.2.2.2.2.2.2.2.2.1 i)) := by
  have hk' := hk
  unfold K0 at hk
  have hc := hs.cases_
  have hfl := hs.flights
  unfold spec_l09CaseOk.f
  generalize he : rdP cd0 x.2.2.2.2.2.2.2.2.2.2.2.2.2.2.2.2.1 i = e
  have hadd : addI .i64 (i : Int) 1 = (i : Int) + 1 := addI_n (by omega)
  obtain ⟨rch, hch, hch2⟩ : ∃ r, spec_l09Chute.f k x ((i : Int) + 1) = some (r, ()) ∧ (0 ≤ r ↔ ∃ c, c ∈ x.2.2.2.2.2.2.2.2.2.2.1 ∧ ((i : Int) + 1, ()) ∈ c.2.2.1) := by
    rcases spec_l09Chute_f hk' x ((i : Int) + 1) hs.chutes hs.bags with ⟨j, h1, h2, _, h3⟩ | ⟨h1, h3⟩
    · exact ⟨_, h3, ⟨fun _ => ⟨rdP (0, 0, [], ()) x.2.2.2.2.2.2.2.2.2.2.1 j, by rw [rd_lt h1]; exact List.getElem_mem h1, h2⟩, fun _ => by omega⟩⟩
    · refine ⟨_, h3, ⟨fun h => by omega, fun ⟨c, h4, h5⟩ => ?_⟩⟩
      obtain ⟨j, hj, e⟩ := List.getElem_of_mem h4
      exact absurd (by rw [rd_lt hj, e]; exact h5) (h1 j hj)
  obtain ⟨rst, hst, hst2⟩ : ∃ r, spec_l06Find.f k (x.2.2.2.2.2.2.2.2.2.2.2.2.1, x.2.2.2.2.2.2.2.2.2.2.2.2.2.1, ()) ((i : Int) + 1) = some (r, ()) ∧ (0 ≤ r ↔ ∃ l, l ∈ x.2.2.2.2.2.2.2.2.2.2.2.2.2.1 ∧ ∃ y, y ∈ l.1 ∧ y.1 = (i : Int) + 1) := by
    rcases spec_l06Find_f hk' (x.2.2.2.2.2.2.2.2.2.2.2.2.1, x.2.2.2.2.2.2.2.2.2.2.2.2.2.1, ()) ((i : Int) + 1) hs.lanes hs.kept with ⟨j, h1, h2, _, h3⟩ | ⟨h1, h3⟩
    · exact ⟨_, h3, ⟨fun _ => ⟨rdP ([], ()) x.2.2.2.2.2.2.2.2.2.2.2.2.2.1 j, by rw [rd_lt h1]; exact List.getElem_mem h1, h2⟩, fun _ => by omega⟩⟩
    · refine ⟨_, h3, ⟨fun h => by omega, fun ⟨c, h4, h5⟩ => ?_⟩⟩
      obtain ⟨j, hj, e⟩ := List.getElem_of_mem h4
      exact absurd (by rw [rd_lt hj, e]; exact h5) (h1 j hj)
  simp (disch := omega) only [lett_e, bnd_s, bnd_chk, br_not, br_t, br_f, br_T, br_F, not_true_eq_false, not_false_eq_true, chk_T, chk_F, chk_eq, eqI_dc, ltI_dc, leI_dc, eqN_dc, notB_dc, andB_dc, andB_t, eqB_dc, notB_t, notB_f, inR_dc, upR_dc, ln_e, app_e, tk_e, dp_e, upd_e, repl_e, natI_n, br_pos, br_neg, addI_n, fitN_T, he, hadd, spec_TagOk_f, spec_l01In_f, spec_ScreenOk_f, spec_l03Has_f hk' _ _ hs.trays, spec_l09OnBelt_f hk' x _ hs.items, hch, hst]
  by_cases hF : 1 ≤ e.2.2.2.1 ∧ e.2.2.2.1 ≤ x.2.2.2.2.2.2.2.2.2.2.2.2.2.2.2.1.length
  case neg =>
    rw [br_neg hF, br_same]
    exact chk_congr ⟨fun z => z.elim, fun z => hF z.2.1⟩
  rw [br_pos hF, subI_id (x := e.2.2.2.1) (by omega)]
  rw [dc_bool (rdP (0, 0, 0, false, 0, ()) x.2.2.2.2.2.2.2.2.2.2.2.2.2.2.2.1 (natI (e.2.2.2.1 - 1))).2.2.2.1]
  rw [loop_chk (n := i) (fun j => ((j : Int), ())) (fun j => ¬ ((rdP cd0 x.2.2.2.2.2.2.2.2.2.2.2.2.2.2.2.2.1 j).1 = e.1 ∧ (rdP cd0 x.2.2.2.2.2.2.2.2.2.2.2.2.2.2.2.2.1 j).2.1 = e.2.1 ∧ (rdP cd0 x.2.2.2.2.2.2.2.2.2.2.2.2.2.2.2.2.1 j).2.2.1 = e.2.2.1)) ?h0 ?hk ?hs ?he]
  case h0 => simp
  case hk => omega
  case hs => intro j hj _ rec; simp (disch := omega) only [lett_e, bnd_s, bnd_chk, br_not, br_t, br_f, br_T, br_F, not_true_eq_false, not_false_eq_true, chk_T, chk_F, chk_eq, eqI_dc, ltI_dc, leI_dc, eqN_dc, notB_dc, andB_dc, andB_t, eqB_dc, notB_t, notB_f, inR_dc, upR_dc, ln_e, app_e, tk_e, dp_e, upd_e, repl_e, natI_n, br_pos, br_neg, addI_n, fitN_T, g1]; rfl
  case he => intro _ rec; simp (disch := omega) only [lett_e, bnd_s, bnd_chk, br_not, br_t, br_f, br_T, br_F, not_true_eq_false, not_false_eq_true, chk_T, chk_F, chk_eq, eqI_dc, ltI_dc, leI_dc, eqN_dc, notB_dc, andB_dc, andB_t, eqB_dc, notB_t, notB_f, inR_dc, upR_dc, ln_e, app_e, tk_e, dp_e, upd_e, repl_e, natI_n, br_pos, br_neg, addI_n, fitN_T, br_chkF, br_chkF', br_chkT, br_chk]; rfl
  simp (disch := omega) only [lett_e, bnd_s, bnd_chk, br_not, br_t, br_f, br_T, br_F, not_true_eq_false, not_false_eq_true, chk_T, chk_F, chk_eq, eqI_dc, ltI_dc, leI_dc, eqN_dc, notB_dc, andB_dc, andB_t, eqB_dc, notB_t, notB_f, inR_dc, upR_dc, ln_e, app_e, tk_e, dp_e, upd_e, repl_e, natI_n, br_pos, br_neg, addI_n, fitN_T, br_chkF']
  refine chk_congr ?_
  unfold CaseP
  rw [hch2, hst2]
  generalize (∀ j, j < i → ¬ ((rdP cd0 x.2.2.2.2.2.2.2.2.2.2.2.2.2.2.2.2.1 j).1 = e.1 ∧ (rdP cd0 x.2.2.2.2.2.2.2.2.2.2.2.2.2.2.2.2.1 j).2.1 = e.2.1 ∧ (rdP cd0 x.2.2.2.2.2.2.2.2.2.2.2.2.2.2.2.2.1 j).2.2.1 = e.2.2.1)) = pA
  generalize (∃ y, y ∈ x.2.2.2.2.2.2.2.1 ∧ y.1 = (i : Int) + 1) = pB
  generalize (((i : Int) + 1, ()) ∈ x.2.2.2.2.2.2.2.2.1) = pC
  generalize (∃ c, c ∈ x.2.2.2.2.2.2.2.2.2.2.1 ∧ ((i : Int) + 1, ()) ∈ c.2.2.1) = pD
  generalize (∃ l, l ∈ x.2.2.2.2.2.2.2.2.2.2.2.2.2.1 ∧ ∃ y, y ∈ l.1 ∧ y.1 = (i : Int) + 1) = pE
  generalize ((rdP (0, 0, 0, false, 0, ()) x.2.2.2.2.2.2.2.2.2.2.2.2.2.2.2.1 (natI (e.2.2.2.1 - 1))).2.2.2.1 = true) = pF
  generalize TagP (e.1, e.2.1, e.2.2.1, ()) = pG
  generalize ScreenP (e.2.2.2.2.2.2.2.1, e.2.2.2.2.2.2.2.2.1, e.2.2.2.2.2.2.2.2.2.1, ()) = pH
  generalize e.2.2.2.2.2.2.1 = p
  generalize e.2.2.2.2.2.2.2.2.2.1 = v
  clear hst2 hch2 hst hch hadd he hfl hc hk' hi hs hk
  by_cases h1 : p = 1
  · subst h1
    simp
    grind
  by_cases h2 : p = 2
  · subst h2
    simp
    grind
  by_cases h6 : p = 6
  · subst h6
    simp
    grind
  simp [h1, h2, h6]
  grind
def HallP (x : HallT) : Prop := (0 ≤ x.1 ∧ x.1 ≤ 100000) ∧ PolicyP x.2.1 ∧ ((60 ≤ x.2.2.1 ∧ x.2.2.1 ≤ 2000) ∧ 1 ≤ x.2.2.2.1 ∧ x.2.2.2.1 ≤ 40) ∧ BeltP (x.2.2.2.2.1, x.2.2.2.2.2.1, x.2.2.2.2.2.2.1, x.2.2.2.2.2.2.2.1, ()) ∧ LoopP (x.2.2.2.2.2.2.2.2.1, x.2.2.2.2.2.2.2.2.2.1, x.2.2.2.2.2.2.2.2.2.2.1, x.2.2.2.2.2.2.2.2.2.2.2.1, ()) ∧ StoreP (x.2.2.2.2.2.2.2.2.2.2.2.2.1, x.2.2.2.2.2.2.2.2.2.2.2.2.2.1, ()) ∧ NotesP x.2.2.2.2.2.2.2.2.2.2.2.2.2.2.1 ∧
  x.2.2.2.2.2.2.2.2.2.2.2.2.2.2.2.1.length ≤ 20 ∧ x.2.2.2.2.2.2.2.2.2.2.2.2.2.2.2.2.1.length ≤ 60 ∧ (∀ f ∈ x.2.2.2.2.2.2.2.2.2.2.2.2.2.2.2.1, FlightP x.2.2.2.2.2.2.2.2.2.2.1.length f) ∧ (∀ i, i < x.2.2.2.2.2.2.2.2.2.2.2.2.2.2.2.2.1.length → CaseP x i (rdP cd0 x.2.2.2.2.2.2.2.2.2.2.2.2.2.2.2.2.1 i)) ∧ (∀ y ∈ x.2.2.2.2.2.2.2.1, y.1 ≤ x.2.2.2.2.2.2.2.2.2.2.2.2.2.2.2.2.1.length) ∧ (∀ y ∈ x.2.2.2.2.2.2.2.2.1, y.1 ≤ x.2.2.2.2.2.2.2.2.2.2.2.2.2.2.2.2.1.length) ∧
  (∀ c ∈ x.2.2.2.2.2.2.2.2.2.2.1, ∀ y ∈ c.2.2.1, y.1 ≤ x.2.2.2.2.2.2.2.2.2.2.2.2.2.2.2.2.1.length) ∧ (∀ l ∈ x.2.2.2.2.2.2.2.2.2.2.2.2.2.1, ∀ y ∈ l.1, y.1 ≤ x.2.2.2.2.2.2.2.2.2.2.2.2.2.2.2.2.1.length)
theorem spec_HallOk_f {k : Nat} (hk : K0 ≤ k) (x : HallT) (hs : SzH x) : spec_HallOk.f k x = chkP (HallP x) := by
  have hk' := hk
  unfold K0 at hk
  have hfl := hs.flights
  have hca := hs.cases_
  have hit := hs.items
  have htr := hs.trays
  have hch := hs.chutes
  have hla := hs.lanes
  unfold spec_HallOk.f
  simp (disch := omega) only [lett_e, bnd_s, bnd_chk, br_not, br_t, br_f, br_T, br_F, not_true_eq_false, not_false_eq_true, chk_T, chk_F, chk_eq, eqI_dc, ltI_dc, leI_dc, eqN_dc, notB_dc, andB_dc, andB_t, eqB_dc, notB_t, notB_f, inR_dc, upR_dc, ln_e, app_e, tk_e, dp_e, upd_e, repl_e, natI_n, br_pos, br_neg, addI_n, fitN_T, spec_l01In_f, spec_PolicyOk_f hk' (x.2.1, ()) hs.wait, spec_LimitsOk_f, spec_BeltOk_f hk', spec_LoopOk_f hk' (x.2.2.2.2.2.2.2.2.1, x.2.2.2.2.2.2.2.2.2.1, x.2.2.2.2.2.2.2.2.2.2.1, x.2.2.2.2.2.2.2.2.2.2.2.1, ()) hs.told, spec_StoreOk_f hk', spec_NotesOk_f hk']
  rw [loop_while (n := x.2.2.2.2.2.2.2.2.2.2.2.2.2.2.2.1.length) (r := chkP False) (e := chkP ((∀ i, i < x.2.2.2.2.2.2.2.2.2.2.2.2.2.2.2.2.1.length → CaseP x i (rdP cd0 x.2.2.2.2.2.2.2.2.2.2.2.2.2.2.2.2.1 i)) ∧ (∀ y ∈ x.2.2.2.2.2.2.2.1, y.1 ≤ x.2.2.2.2.2.2.2.2.2.2.2.2.2.2.2.2.1.length) ∧ (∀ y ∈ x.2.2.2.2.2.2.2.2.1, y.1 ≤ x.2.2.2.2.2.2.2.2.2.2.2.2.2.2.2.2.1.length) ∧ (∀ c ∈ x.2.2.2.2.2.2.2.2.2.2.1, ∀ y ∈ c.2.2.1, y.1 ≤ x.2.2.2.2.2.2.2.2.2.2.2.2.2.2.2.2.1.length) ∧ (∀ l ∈ x.2.2.2.2.2.2.2.2.2.2.2.2.2.1, ∀ y ∈ l.1, y.1 ≤ x.2.2.2.2.2.2.2.2.2.2.2.2.2.2.2.2.1.length))) (fun j => ((j : Int), ())) (fun i => FlightP x.2.2.2.2.2.2.2.2.2.2.1.length (rdP fd0 x.2.2.2.2.2.2.2.2.2.2.2.2.2.2.2.1 i)) ?h0 ?hs0 ?he0 ?hk0]
  case h0 => simp
  case hk0 => omega
  case hs0 => intro i hi _ rec; simp (disch := omega) only [lett_e, bnd_s, bnd_chk, br_not, br_t, br_f, br_T, br_F, not_true_eq_false, not_false_eq_true, chk_T, chk_F, chk_eq, eqI_dc, ltI_dc, leI_dc, eqN_dc, notB_dc, andB_dc, andB_t, eqB_dc, notB_t, notB_f, inR_dc, upR_dc, ln_e, app_e, tk_e, dp_e, upd_e, repl_e, natI_n, br_pos, br_neg, addI_n, fitN_T, spec_l09FlightOk_f _ _ _ hs.chutes]; rfl
  case he0 =>
    intro _ rec
    simp (disch := omega) only [lett_e, bnd_s, bnd_chk, br_not, br_t, br_f, br_T, br_F, not_true_eq_false, not_false_eq_true, chk_T, chk_F, chk_eq, eqI_dc, ltI_dc, leI_dc, eqN_dc, notB_dc, andB_dc, andB_t, eqB_dc, notB_t, notB_f, inR_dc, upR_dc, ln_e, app_e, tk_e, dp_e, upd_e, repl_e, natI_n, br_pos, br_neg, addI_n, fitN_T]
    rw [loop_chk (n := x.2.2.2.2.2.2.2.2.2.2.2.2.2.2.2.2.1.length) (Q := (∀ y ∈ x.2.2.2.2.2.2.2.1, y.1 ≤ x.2.2.2.2.2.2.2.2.2.2.2.2.2.2.2.2.1.length) ∧ (∀ y ∈ x.2.2.2.2.2.2.2.2.1, y.1 ≤ x.2.2.2.2.2.2.2.2.2.2.2.2.2.2.2.2.1.length) ∧ (∀ c ∈ x.2.2.2.2.2.2.2.2.2.2.1, ∀ y ∈ c.2.2.1, y.1 ≤ x.2.2.2.2.2.2.2.2.2.2.2.2.2.2.2.2.1.length) ∧ (∀ l ∈ x.2.2.2.2.2.2.2.2.2.2.2.2.2.1, ∀ y ∈ l.1, y.1 ≤ x.2.2.2.2.2.2.2.2.2.2.2.2.2.2.2.2.1.length)) (fun j => ((j : Int), ())) (fun i => CaseP x i (rdP cd0 x.2.2.2.2.2.2.2.2.2.2.2.2.2.2.2.2.1 i)) ?h1 ?hk1 ?hs1 ?he1]
    case h1 => simp
    case hk1 => omega
    case hs1 => intro i hi _ rec; have := spec_l09CaseOk_f hk' x i hs hi; simp (disch := omega) only [lett_e, bnd_s, bnd_chk, br_not, br_t, br_f, br_T, br_F, not_true_eq_false, not_false_eq_true, chk_T, chk_F, chk_eq, eqI_dc, ltI_dc, leI_dc, eqN_dc, notB_dc, andB_dc, andB_t, eqB_dc, notB_t, notB_f, inR_dc, upR_dc, ln_e, app_e, tk_e, dp_e, upd_e, repl_e, natI_n, br_pos, br_neg, addI_n, fitN_T, this]; rfl
    case he1 =>
      intro _ rec
      simp (disch := omega) only [lett_e, bnd_s, bnd_chk, br_not, br_t, br_f, br_T, br_F, not_true_eq_false, not_false_eq_true, chk_T, chk_F, chk_eq, eqI_dc, ltI_dc, leI_dc, eqN_dc, notB_dc, andB_dc, andB_t, eqB_dc, notB_t, notB_f, inR_dc, upR_dc, ln_e, app_e, tk_e, dp_e, upd_e, repl_e, natI_n, br_pos, br_neg, addI_n, fitN_T]
      rw [loop_chk (n := x.2.2.2.2.2.2.2.1.length) (Q := (∀ y ∈ x.2.2.2.2.2.2.2.2.1, y.1 ≤ x.2.2.2.2.2.2.2.2.2.2.2.2.2.2.2.2.1.length) ∧ (∀ c ∈ x.2.2.2.2.2.2.2.2.2.2.1, ∀ y ∈ c.2.2.1, y.1 ≤ x.2.2.2.2.2.2.2.2.2.2.2.2.2.2.2.2.1.length) ∧ (∀ l ∈ x.2.2.2.2.2.2.2.2.2.2.2.2.2.1, ∀ y ∈ l.1, y.1 ≤ x.2.2.2.2.2.2.2.2.2.2.2.2.2.2.2.2.1.length)) (fun j => ((j : Int), ())) (fun i => (rdP (0, 0, 0, ()) x.2.2.2.2.2.2.2.1 i).1 ≤ x.2.2.2.2.2.2.2.2.2.2.2.2.2.2.2.2.1.length) ?h2 ?hk2 ?hs2 ?he2]
      case h2 => simp
      case hk2 => omega
      case hs2 => intro i hi _ rec; simp (disch := omega) only [lett_e, bnd_s, bnd_chk, br_not, br_t, br_f, br_T, br_F, not_true_eq_false, not_false_eq_true, chk_T, chk_F, chk_eq, eqI_dc, ltI_dc, leI_dc, eqN_dc, notB_dc, andB_dc, andB_t, eqB_dc, notB_t, notB_f, inR_dc, upR_dc, ln_e, app_e, tk_e, dp_e, upd_e, repl_e, natI_n, br_pos, br_neg, addI_n, fitN_T, g1, Int.not_lt]; rfl
      case he2 =>
        intro _ rec
        simp (disch := omega) only [lett_e, bnd_s, bnd_chk, br_not, br_t, br_f, br_T, br_F, not_true_eq_false, not_false_eq_true, chk_T, chk_F, chk_eq, eqI_dc, ltI_dc, leI_dc, eqN_dc, notB_dc, andB_dc, andB_t, eqB_dc, notB_t, notB_f, inR_dc, upR_dc, ln_e, app_e, tk_e, dp_e, upd_e, repl_e, natI_n, br_pos, br_neg, addI_n, fitN_T]
        rw [loop_chk (n := x.2.2.2.2.2.2.2.2.1.length) (Q := (∀ c ∈ x.2.2.2.2.2.2.2.2.2.2.1, ∀ y ∈ c.2.2.1, y.1 ≤ x.2.2.2.2.2.2.2.2.2.2.2.2.2.2.2.2.1.length) ∧ (∀ l ∈ x.2.2.2.2.2.2.2.2.2.2.2.2.2.1, ∀ y ∈ l.1, y.1 ≤ x.2.2.2.2.2.2.2.2.2.2.2.2.2.2.2.2.1.length)) (fun j => ((j : Int), ())) (fun i => (rdP (0, ()) x.2.2.2.2.2.2.2.2.1 i).1 ≤ x.2.2.2.2.2.2.2.2.2.2.2.2.2.2.2.2.1.length) ?h3 ?hk3 ?hs3 ?he3]
        case h3 => simp
        case hk3 => omega
        case hs3 => intro i hi _ rec; simp (disch := omega) only [lett_e, bnd_s, bnd_chk, br_not, br_t, br_f, br_T, br_F, not_true_eq_false, not_false_eq_true, chk_T, chk_F, chk_eq, eqI_dc, ltI_dc, leI_dc, eqN_dc, notB_dc, andB_dc, andB_t, eqB_dc, notB_t, notB_f, inR_dc, upR_dc, ln_e, app_e, tk_e, dp_e, upd_e, repl_e, natI_n, br_pos, br_neg, addI_n, fitN_T, g1, Int.not_lt]; rfl
        case he3 =>
          intro _ rec
          simp (disch := omega) only [lett_e, bnd_s, bnd_chk, br_not, br_t, br_f, br_T, br_F, not_true_eq_false, not_false_eq_true, chk_T, chk_F, chk_eq, eqI_dc, ltI_dc, leI_dc, eqN_dc, notB_dc, andB_dc, andB_t, eqB_dc, notB_t, notB_f, inR_dc, upR_dc, ln_e, app_e, tk_e, dp_e, upd_e, repl_e, natI_n, br_pos, br_neg, addI_n, fitN_T]
          rw [loop_chk (n := x.2.2.2.2.2.2.2.2.2.2.1.length) (Q := ∀ l ∈ x.2.2.2.2.2.2.2.2.2.2.2.2.2.1, ∀ y ∈ l.1, y.1 ≤ x.2.2.2.2.2.2.2.2.2.2.2.2.2.2.2.2.1.length) (fun j => ((j : Int), ())) (fun i => ∀ j, j < (rdP (0, 0, [], ()) x.2.2.2.2.2.2.2.2.2.2.1 i).2.2.1.length → (rdP (0, ()) (rdP (0, 0, [], ()) x.2.2.2.2.2.2.2.2.2.2.1 i).2.2.1 j).1 ≤ x.2.2.2.2.2.2.2.2.2.2.2.2.2.2.2.2.1.length) ?h4 ?hk4 ?hs4 ?he4]
          case h4 => simp
          case hk4 => omega
          case hs4 =>
            intro i hi _ rec
            have := hs.bags _ (by rw [rd_lt hi]; exact List.getElem_mem hi : rdP (0, 0, [], ()) x.2.2.2.2.2.2.2.2.2.2.1 i ∈ x.2.2.2.2.2.2.2.2.2.2.1)
            simp (disch := omega) only [lett_e, bnd_s, bnd_chk, br_not, br_t, br_f, br_T, br_F, not_true_eq_false, not_false_eq_true, chk_T, chk_F, chk_eq, eqI_dc, ltI_dc, leI_dc, eqN_dc, notB_dc, andB_dc, andB_t, eqB_dc, notB_t, notB_f, inR_dc, upR_dc, ln_e, app_e, tk_e, dp_e, upd_e, repl_e, natI_n, br_pos, br_neg, addI_n, fitN_T]
            rw [loop_while (n := (rdP (0, 0, [], ()) x.2.2.2.2.2.2.2.2.2.2.1 i).2.2.1.length) (r := chkP False) (e := rec (((i + 1 : Nat) : Int), ())) (fun j => ((j : Int), ())) (fun j => (rdP (0, ()) (rdP (0, 0, [], ()) x.2.2.2.2.2.2.2.2.2.2.1 i).2.2.1 j).1 ≤ x.2.2.2.2.2.2.2.2.2.2.2.2.2.2.2.2.1.length) ?h5 ?hs5 ?he5 ?hk5]
            case h5 => simp
            case hk5 => omega
            case hs5 => intro j hj _ rec2; simp (disch := omega) only [lett_e, bnd_s, bnd_chk, br_not, br_t, br_f, br_T, br_F, not_true_eq_false, not_false_eq_true, chk_T, chk_F, chk_eq, eqI_dc, ltI_dc, leI_dc, eqN_dc, notB_dc, andB_dc, andB_t, eqB_dc, notB_t, notB_f, inR_dc, upR_dc, ln_e, app_e, tk_e, dp_e, upd_e, repl_e, natI_n, br_pos, br_neg, addI_n, fitN_T, g1, Int.not_lt]; rfl
            case he5 => intro _ rec2; simp (disch := omega) only [lett_e, bnd_s, bnd_chk, br_not, br_t, br_f, br_T, br_F, not_true_eq_false, not_false_eq_true, chk_T, chk_F, chk_eq, eqI_dc, ltI_dc, leI_dc, eqN_dc, notB_dc, andB_dc, andB_t, eqB_dc, notB_t, notB_f, inR_dc, upR_dc, ln_e, app_e, tk_e, dp_e, upd_e, repl_e, natI_n, br_pos, br_neg, addI_n, fitN_T]; rfl
          case he4 =>
            intro _ rec
            simp (disch := omega) only [lett_e, bnd_s, bnd_chk, br_not, br_t, br_f, br_T, br_F, not_true_eq_false, not_false_eq_true, chk_T, chk_F, chk_eq, eqI_dc, ltI_dc, leI_dc, eqN_dc, notB_dc, andB_dc, andB_t, eqB_dc, notB_t, notB_f, inR_dc, upR_dc, ln_e, app_e, tk_e, dp_e, upd_e, repl_e, natI_n, br_pos, br_neg, addI_n, fitN_T]
            rw [loop_chk (n := x.2.2.2.2.2.2.2.2.2.2.2.2.2.1.length) (Q := True) (fun j => ((j : Int), ())) (fun i => ∀ j, j < (rdP ([], ()) x.2.2.2.2.2.2.2.2.2.2.2.2.2.1 i).1.length → (rdP (0, 0, ()) (rdP ([], ()) x.2.2.2.2.2.2.2.2.2.2.2.2.2.1 i).1 j).1 ≤ x.2.2.2.2.2.2.2.2.2.2.2.2.2.2.2.2.1.length) ?h6 ?hk6 ?hs6 ?he6]
            case h6 => simp
            case hk6 => omega
            case hs6 =>
              intro i hi _ rec
              have := hs.kept _ (by rw [rd_lt hi]; exact List.getElem_mem hi : rdP ([], ()) x.2.2.2.2.2.2.2.2.2.2.2.2.2.1 i ∈ x.2.2.2.2.2.2.2.2.2.2.2.2.2.1)
              simp (disch := omega) only [lett_e, bnd_s, bnd_chk, br_not, br_t, br_f, br_T, br_F, not_true_eq_false, not_false_eq_true, chk_T, chk_F, chk_eq, eqI_dc, ltI_dc, leI_dc, eqN_dc, notB_dc, andB_dc, andB_t, eqB_dc, notB_t, notB_f, inR_dc, upR_dc, ln_e, app_e, tk_e, dp_e, upd_e, repl_e, natI_n, br_pos, br_neg, addI_n, fitN_T]
              rw [loop_while (n := (rdP ([], ()) x.2.2.2.2.2.2.2.2.2.2.2.2.2.1 i).1.length) (r := chkP False) (e := rec (((i + 1 : Nat) : Int), ())) (fun j => ((j : Int), ())) (fun j => (rdP (0, 0, ()) (rdP ([], ()) x.2.2.2.2.2.2.2.2.2.2.2.2.2.1 i).1 j).1 ≤ x.2.2.2.2.2.2.2.2.2.2.2.2.2.2.2.2.1.length) ?h7 ?hs7 ?he7 ?hk7]
              case h7 => simp
              case hk7 => omega
              case hs7 => intro j hj _ rec2; simp (disch := omega) only [lett_e, bnd_s, bnd_chk, br_not, br_t, br_f, br_T, br_F, not_true_eq_false, not_false_eq_true, chk_T, chk_F, chk_eq, eqI_dc, ltI_dc, leI_dc, eqN_dc, notB_dc, andB_dc, andB_t, eqB_dc, notB_t, notB_f, inR_dc, upR_dc, ln_e, app_e, tk_e, dp_e, upd_e, repl_e, natI_n, br_pos, br_neg, addI_n, fitN_T, g1, Int.not_lt]; rfl
              case he7 => intro _ rec2; simp (disch := omega) only [lett_e, bnd_s, bnd_chk, br_not, br_t, br_f, br_T, br_F, not_true_eq_false, not_false_eq_true, chk_T, chk_F, chk_eq, eqI_dc, ltI_dc, leI_dc, eqN_dc, notB_dc, andB_dc, andB_t, eqB_dc, notB_t, notB_f, inR_dc, upR_dc, ln_e, app_e, tk_e, dp_e, upd_e, repl_e, natI_n, br_pos, br_neg, addI_n, fitN_T]; rfl
            case he6 => intro _ rec; simp (disch := omega) only [lett_e, bnd_s, bnd_chk, br_not, br_t, br_f, br_T, br_F, not_true_eq_false, not_false_eq_true, chk_T, chk_F, chk_eq, eqI_dc, ltI_dc, leI_dc, eqN_dc, notB_dc, andB_dc, andB_t, eqB_dc, notB_t, notB_f, inR_dc, upR_dc, ln_e, app_e, tk_e, dp_e, upd_e, repl_e, natI_n, br_pos, br_neg, addI_n, fitN_T]
            refine chk_congr ?_
            rw [and_true, all_rd (d := ([], ())) (l := x.2.2.2.2.2.2.2.2.2.2.2.2.2.1) (P := fun l => ∀ j, j < l.1.length → (rdP (0, 0, ()) l.1 j).1 ≤ x.2.2.2.2.2.2.2.2.2.2.2.2.2.2.2.2.1.length)]
            exact forall_congr' fun l => forall_congr' fun _ => all_rd (P := fun y : Kept => y.1 ≤ x.2.2.2.2.2.2.2.2.2.2.2.2.2.2.2.2.1.length)
          refine chk_congr (and_congr_left fun _ => ?_)
          rw [all_rd (d := (0, 0, [], ())) (l := x.2.2.2.2.2.2.2.2.2.2.1) (P := fun c => ∀ j, j < c.2.2.1.length → (rdP (0, ()) c.2.2.1 j).1 ≤ x.2.2.2.2.2.2.2.2.2.2.2.2.2.2.2.2.1.length)]
          exact forall_congr' fun l => forall_congr' fun _ => all_rd (P := fun y : Int × Unit => y.1 ≤ x.2.2.2.2.2.2.2.2.2.2.2.2.2.2.2.2.1.length)
        exact chk_congr (and_congr_left fun _ => all_rd (P := fun y : Int × Unit => y.1 ≤ x.2.2.2.2.2.2.2.2.2.2.2.2.2.2.2.2.1.length))
      exact chk_congr (and_congr_left fun _ => all_rd (P := fun y : Item => y.1 ≤ x.2.2.2.2.2.2.2.2.2.2.2.2.2.2.2.2.1.length))
  rw [all_rd (d := fd0) (l := x.2.2.2.2.2.2.2.2.2.2.2.2.2.2.2.1) (P := fun f => FlightP x.2.2.2.2.2.2.2.2.2.2.1.length f)]
  simp only [g1, br_chkF, br_chkF']
  refine chk_congr ?_
  unfold HallP
  have e1 : ¬ ((20 : Int) < x.2.2.2.2.2.2.2.2.2.2.2.2.2.2.2.1.length) ↔ x.2.2.2.2.2.2.2.2.2.2.2.2.2.2.2.1.length ≤ 20 := by omega
  have e2 : ¬ ((60 : Int) < x.2.2.2.2.2.2.2.2.2.2.2.2.2.2.2.2.1.length) ↔ x.2.2.2.2.2.2.2.2.2.2.2.2.2.2.2.2.1.length ≤ 60 := by omega
  rw [e1, e2]
end Go.Proofs.YtpihkhknehadbaaGreat.Eng
