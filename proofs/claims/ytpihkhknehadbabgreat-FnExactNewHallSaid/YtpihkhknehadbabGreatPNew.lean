/- New halls: what the copies give, the reference's and the program's. No condition. -/
import Derived.Test.YtpihkhknehadbabGreatPA
import Derived.Test.YtpihkhknehadbabGreatPB
import Derived.Test.YtpihkhknehadbabGreatDFnExactNewHall
namespace Go.Proofs.YtpihkhknehadbabGreat.Eng
set_option linter.unusedVariables false
set_option linter.unusedSimpArgs false
theorem both_same {α : Type} (a : Option α) : both a a = a := by unfold both; exact if_pos rfl
theorem copy_loop {α R : Type} {d : α} {k : Nat} (hk : K0 ≤ k) (l : List α) (hl : l.length ≤ 1048576) {F : (List α × Int × Unit → Option R) → List α × Int × Unit → Option R} {r : Option R}
    (hF : ∀ (i : Nat) rec, i < l.length → (l.take i).length ≤ 1048576 → F rec (l.take i, (i : Int), ()) = rec (l.take i ++ [rdP d l i], ((i + 1 : Nat) : Int), ())) (hE : ∀ rec, F rec (l, (l.length : Int), ()) = r) : loopN F k ([], 0, ()) = r := by
  unfold K0 at hk
  refine loop_run (n := l.length) (fun i => (l.take i, (i : Int), ())) (by simp) (fun i hi rec => ?_) (fun rec => by rw [List.take_length]; exact hE rec) (by omega)
  rw [hF i rec hi (by rw [List.length_take]; omega), take_s (d := d) hi]
theorem lt_t {α R : Type} {l : List α} {i : Nat} (h : i < l.length) (A B : Option R) : br (ltI (i : Int) (ln l)) A B = A := by rw [ltI_dc, ln_e, br_pos (by omega)]
theorem lt_e {α R : Type} {l : List α} (A B : Option R) : br (ltI (l.length : Int) (ln l)) A B = B := by rw [ltI_dc, ln_e, br_neg (by omega)]
theorem fit1 {α : Type} {l : List α} (x : α) (h : l.length ≤ 1048576) : fitL l [x] = true := fitL_T (by simp; omega)
theorem fit0 {α : Type} {l : List α} (h : l.length ≤ 1048576) : fitL [] l = true := fitL_T (by simp; omega)
theorem slices_Clone_impl_Item_f (k : Nat) {l : List Item} (h : l.length ≤ 1048576) : slices_Clone_impl_Item.f k l = some (l, ()) := by
  unfold slices_Clone_impl_Item.f
  simp (disch := omega) only [lett_e, bnd_s, bnd_chk, br_not, br_t, br_f, br_T, br_F, not_true_eq_false, not_false_eq_true, chk_T, chk_F, chk_eq, eqI_dc, ltI_dc, leI_dc, eqN_dc, notB_dc, andB_dc, andB_t, eqB_dc, notB_t, notB_f, inR_dc, upR_dc, ln_e, app_e, tk_e, dp_e, upd_e, repl_e, natI_n, br_pos, br_neg, addI_n, fitN_T, fit0 h, List.nil_append]
  exact nilB_same _ _ _ (fun e => by rw [e])
theorem slices_Clone_impl_Kept_f (k : Nat) {l : List Kept} (h : l.length ≤ 1048576) : slices_Clone_impl_Kept.f k l = some (l, ()) := by
  unfold slices_Clone_impl_Kept.f
  simp (disch := omega) only [lett_e, bnd_s, bnd_chk, br_not, br_t, br_f, br_T, br_F, not_true_eq_false, not_false_eq_true, chk_T, chk_F, chk_eq, eqI_dc, ltI_dc, leI_dc, eqN_dc, notB_dc, andB_dc, andB_t, eqB_dc, notB_t, notB_f, inR_dc, upR_dc, ln_e, app_e, tk_e, dp_e, upd_e, repl_e, natI_n, br_pos, br_neg, addI_n, fitN_T, fit0 h, List.nil_append]
  exact nilB_same _ _ _ (fun e => by rw [e])
theorem slices_Clone_impl_Note_f (k : Nat) {l : List NoteT} (h : l.length ≤ 1048576) : slices_Clone_impl_Note.f k l = some (l, ()) := by
  unfold slices_Clone_impl_Note.f
  simp (disch := omega) only [lett_e, bnd_s, bnd_chk, br_not, br_t, br_f, br_T, br_F, not_true_eq_false, not_false_eq_true, chk_T, chk_F, chk_eq, eqI_dc, ltI_dc, leI_dc, eqN_dc, notB_dc, andB_dc, andB_t, eqB_dc, notB_t, notB_f, inR_dc, upR_dc, ln_e, app_e, tk_e, dp_e, upd_e, repl_e, natI_n, br_pos, br_neg, addI_n, fitN_T, fit0 h, List.nil_append]
  exact nilB_same _ _ _ (fun e => by rw [e])
theorem slices_Clone_impl_Flight_f (k : Nat) {l : List FlightT} (h : l.length ≤ 1048576) : slices_Clone_impl_Flight.f k l = some (l, ()) := by
  unfold slices_Clone_impl_Flight.f
  simp (disch := omega) only [lett_e, bnd_s, bnd_chk, br_not, br_t, br_f, br_T, br_F, not_true_eq_false, not_false_eq_true, chk_T, chk_F, chk_eq, eqI_dc, ltI_dc, leI_dc, eqN_dc, notB_dc, andB_dc, andB_t, eqB_dc, notB_t, notB_f, inR_dc, upR_dc, ln_e, app_e, tk_e, dp_e, upd_e, repl_e, natI_n, br_pos, br_neg, addI_n, fitN_T, fit0 h, List.nil_append]
  exact nilB_same _ _ _ (fun e => by rw [e])
theorem slices_Clone_impl_Case_f (k : Nat) {l : List CaseT} (h : l.length ≤ 1048576) : slices_Clone_impl_Case.f k l = some (l, ()) := by
  unfold slices_Clone_impl_Case.f
  simp (disch := omega) only [lett_e, bnd_s, bnd_chk, br_not, br_t, br_f, br_T, br_F, not_true_eq_false, not_false_eq_true, chk_T, chk_F, chk_eq, eqI_dc, ltI_dc, leI_dc, eqN_dc, notB_dc, andB_dc, andB_t, eqB_dc, notB_t, notB_f, inR_dc, upR_dc, ln_e, app_e, tk_e, dp_e, upd_e, repl_e, natI_n, br_pos, br_neg, addI_n, fitN_T, fit0 h, List.nil_append]
  exact nilB_same _ _ _ (fun e => by rw [e])
abbrev BeltT := Int × Int × Bool × List Item × Unit
theorem spec_l02Fresh_f (k : Nat) (b : BeltT) (h : b.2.2.2.1.length ≤ 1048576) : spec_l02Fresh.f k b = some (b, ()) := by
  unfold spec_l02Fresh.f
  simp (disch := omega) only [lett_e, bnd_s, bnd_chk, br_not, br_t, br_f, br_T, br_F, not_true_eq_false, not_false_eq_true, chk_T, chk_F, chk_eq, eqI_dc, ltI_dc, leI_dc, eqN_dc, notB_dc, andB_dc, andB_t, eqB_dc, notB_t, notB_f, inR_dc, upR_dc, ln_e, app_e, tk_e, dp_e, upd_e, repl_e, natI_n, br_pos, br_neg, addI_n, fitN_T, fit0 h, List.nil_append]
theorem impl_copyBelt_f (k : Nat) (b : BeltT) (h : b.2.2.2.1.length ≤ 1048576) : impl_copyBelt.f k b = some (b, ()) := by
  unfold impl_copyBelt.f
  simp (disch := omega) only [lett_e, bnd_s, bnd_chk, br_not, br_t, br_f, br_T, br_F, not_true_eq_false, not_false_eq_true, chk_T, chk_F, chk_eq, eqI_dc, ltI_dc, leI_dc, eqN_dc, notB_dc, andB_dc, andB_t, eqB_dc, notB_t, notB_f, inR_dc, upR_dc, ln_e, app_e, tk_e, dp_e, upd_e, repl_e, natI_n, br_pos, br_neg, addI_n, fitN_T, slices_Clone_impl_Item_f k h]
theorem spec_l06Copy_f {k : Nat} (hk : K0 ≤ k) (s : StoreT) (h1 : s.2.1.length ≤ 1048576) (h2 : ∀ c ∈ s.2.1, c.1.length ≤ 1048576) : spec_l06Copy.f k s = some (s, ()) := by
  unfold spec_l06Copy.f
  refine copy_loop (d := ([], ())) hk s.2.1 h1 (fun i rec hi hl => ?_) (fun rec => by simp (disch := omega) only [lett_e, bnd_s, bnd_chk, br_not, br_t, br_f, br_T, br_F, not_true_eq_false, not_false_eq_true, chk_T, chk_F, chk_eq, eqI_dc, ltI_dc, leI_dc, eqN_dc, notB_dc, andB_dc, andB_t, eqB_dc, notB_t, notB_f, inR_dc, upR_dc, ln_e, app_e, tk_e, dp_e, upd_e, repl_e, natI_n, br_pos, br_neg, addI_n, fitN_T])
  have h3 := h2 _ (rd_mem (d := ([], ())) hi)
  simp (disch := omega) only [lett_e, bnd_s, bnd_chk, br_not, br_t, br_f, br_T, br_F, not_true_eq_false, not_false_eq_true, chk_T, chk_F, chk_eq, eqI_dc, ltI_dc, leI_dc, eqN_dc, notB_dc, andB_dc, andB_t, eqB_dc, notB_t, notB_f, inR_dc, upR_dc, ln_e, app_e, tk_e, dp_e, upd_e, repl_e, natI_n, br_pos, br_neg, addI_n, fitN_T, fit0 h3, List.nil_append, fit1 _ hl]
  rfl
theorem impl_copyStore_f {k : Nat} (hk : K0 ≤ k) (s : StoreT) (h1 : s.2.1.length ≤ 1048576) (h2 : ∀ c ∈ s.2.1, c.1.length ≤ 1048576) : impl_copyStore.f k s = some (s, ()) := by
  unfold impl_copyStore.f
  refine copy_loop (d := ([], ())) hk s.2.1 h1 (fun i rec hi hl => ?_) (fun rec => by simp (disch := omega) only [lett_e, bnd_s, bnd_chk, br_not, br_t, br_f, br_T, br_F, not_true_eq_false, not_false_eq_true, chk_T, chk_F, chk_eq, eqI_dc, ltI_dc, leI_dc, eqN_dc, notB_dc, andB_dc, andB_t, eqB_dc, notB_t, notB_f, inR_dc, upR_dc, ln_e, app_e, tk_e, dp_e, upd_e, repl_e, natI_n, br_pos, br_neg, addI_n, fitN_T])
  have h3 := h2 _ (rd_mem (d := ([], ())) hi)
  simp (disch := omega) only [lett_e, bnd_s, bnd_chk, br_not, br_t, br_f, br_T, br_F, not_true_eq_false, not_false_eq_true, chk_T, chk_F, chk_eq, eqI_dc, ltI_dc, leI_dc, eqN_dc, notB_dc, andB_dc, andB_t, eqB_dc, notB_t, notB_f, inR_dc, upR_dc, ln_e, app_e, tk_e, dp_e, upd_e, repl_e, natI_n, br_pos, br_neg, addI_n, fitN_T, slices_Clone_impl_Kept_f k h3, fit1 _ hl]
  rfl
theorem spec_l05Copy_f {k : Nat} (hk : K0 ≤ k) (x : LoopT) (h1 : x.1.length ≤ 1048576) (h2 : x.2.2.1.length ≤ 1048576) (h3 : ∀ c ∈ x.2.2.1, c.2.2.1.length ≤ 1048576) (h4 : x.2.2.2.1.length ≤ 1048576) (h5 : ∀ c ∈ x.2.2.2.1, c.2.1.length ≤ 1048576) : spec_l05Copy.f k x = some (x, ()) := by
  unfold spec_l05Copy.f
  rw [fit0 h1, br_t, lett_e, app_e, List.nil_append]
  refine copy_loop (d := (0, 0, [], ())) hk x.2.2.1 h2 (fun i rec hi hl => ?_) (fun rec => ?_)
  · have h6 := h3 _ (rd_mem (d := (0, 0, [], ())) hi)
    refine (lt_t hi _ _).trans ?_
    simp (disch := omega) only [lett_e, bnd_s, bnd_chk, br_not, br_t, br_f, br_T, br_F, not_true_eq_false, not_false_eq_true, chk_T, chk_F, chk_eq, eqI_dc, ltI_dc, leI_dc, eqN_dc, notB_dc, andB_dc, andB_t, eqB_dc, notB_t, notB_f, inR_dc, upR_dc, ln_e, app_e, tk_e, dp_e, upd_e, repl_e, natI_n, br_pos, br_neg, addI_n, fitN_T, fit0 h6, List.nil_append, fit1 _ hl]
    rfl
  · refine (lt_e _ _).trans ?_
    refine copy_loop (d := (0, [], ())) hk x.2.2.2.1 h4 (fun i rec hi hl => ?_) (fun rec => by simp (disch := omega) only [lett_e, bnd_s, bnd_chk, br_not, br_t, br_f, br_T, br_F, not_true_eq_false, not_false_eq_true, chk_T, chk_F, chk_eq, eqI_dc, ltI_dc, leI_dc, eqN_dc, notB_dc, andB_dc, andB_t, eqB_dc, notB_t, notB_f, inR_dc, upR_dc, ln_e, app_e, tk_e, dp_e, upd_e, repl_e, natI_n, br_pos, br_neg, addI_n, fitN_T])
    have h6 := h5 _ (rd_mem (d := (0, [], ())) hi)
    simp (disch := omega) only [lett_e, bnd_s, bnd_chk, br_not, br_t, br_f, br_T, br_F, not_true_eq_false, not_false_eq_true, chk_T, chk_F, chk_eq, eqI_dc, ltI_dc, leI_dc, eqN_dc, notB_dc, andB_dc, andB_t, eqB_dc, notB_t, notB_f, inR_dc, upR_dc, ln_e, app_e, tk_e, dp_e, upd_e, repl_e, natI_n, br_pos, br_neg, addI_n, fitN_T, fit0 h6, List.nil_append, fit1 _ hl]
    rfl
theorem impl_copyLoop_f {k : Nat} (hk : K0 ≤ k) (x : LoopT) (h1 : x.1.length ≤ 1048576) (h2 : x.2.2.1.length ≤ 1048576) (h3 : ∀ c ∈ x.2.2.1, c.2.2.1.length ≤ 1048576) (h4 : x.2.2.2.1.length ≤ 1048576) (h5 : ∀ c ∈ x.2.2.2.1, c.2.1.length ≤ 1048576) : impl_copyLoop.f k x = some (x, ()) := by
  unfold impl_copyLoop.f
  rw [lett_e, slices_Clone_int_int_f k h1, bnd_s, both_same]
  refine copy_loop (d := (0, 0, [], ())) hk x.2.2.1 h2 (fun i rec hi hl => ?_) (fun rec => ?_)
  · have h6 := h3 _ (rd_mem (d := (0, 0, [], ())) hi)
    refine (lt_t hi _ _).trans ?_
    simp (disch := omega) only [lett_e, bnd_s, bnd_chk, br_not, br_t, br_f, br_T, br_F, not_true_eq_false, not_false_eq_true, chk_T, chk_F, chk_eq, eqI_dc, ltI_dc, leI_dc, eqN_dc, notB_dc, andB_dc, andB_t, eqB_dc, notB_t, notB_f, inR_dc, upR_dc, ln_e, app_e, tk_e, dp_e, upd_e, repl_e, natI_n, br_pos, br_neg, addI_n, fitN_T, slices_Clone_int_int_f k h6, fit1 _ hl]
    rfl
  · refine (lt_e _ _).trans ?_
    refine copy_loop (d := (0, [], ())) hk x.2.2.2.1 h4 (fun i rec hi hl => ?_) (fun rec => by simp (disch := omega) only [lett_e, bnd_s, bnd_chk, br_not, br_t, br_f, br_T, br_F, not_true_eq_false, not_false_eq_true, chk_T, chk_F, chk_eq, eqI_dc, ltI_dc, leI_dc, eqN_dc, notB_dc, andB_dc, andB_t, eqB_dc, notB_t, notB_f, inR_dc, upR_dc, ln_e, app_e, tk_e, dp_e, upd_e, repl_e, natI_n, br_pos, br_neg, addI_n, fitN_T])
    have h6 := h5 _ (rd_mem (d := (0, [], ())) hi)
    simp (disch := omega) only [lett_e, bnd_s, bnd_chk, br_not, br_t, br_f, br_T, br_F, not_true_eq_false, not_false_eq_true, chk_T, chk_F, chk_eq, eqI_dc, ltI_dc, leI_dc, eqN_dc, notB_dc, andB_dc, andB_t, eqB_dc, notB_t, notB_f, inR_dc, upR_dc, ln_e, app_e, tk_e, dp_e, upd_e, repl_e, natI_n, br_pos, br_neg, addI_n, fitN_T, slices_Clone_int_int_f k h6, fit1 _ hl]
    rfl
theorem spec_l09Copy_f {k : Nat} (hk : K0 ≤ k) (x : HallT) (hs : SzH x) : spec_l09Copy.f k x = some (x, ()) := by
  have h1 := spec_l02Fresh_f k (x.2.2.2.2.1, x.2.2.2.2.2.1, x.2.2.2.2.2.2.1, x.2.2.2.2.2.2.2.1, ()) hs.items
  have h2 := spec_l06Copy_f hk (x.2.2.2.2.2.2.2.2.2.2.2.2.1, x.2.2.2.2.2.2.2.2.2.2.2.2.2.1, ()) hs.lanes hs.kept
  have h3 := spec_l05Copy_f hk (x.2.2.2.2.2.2.2.2.1, x.2.2.2.2.2.2.2.2.2.1, x.2.2.2.2.2.2.2.2.2.2.1, x.2.2.2.2.2.2.2.2.2.2.2.1, ()) hs.trays hs.chutes hs.bags hs.wants hs.told
  unfold spec_l09Copy.f
  simp (disch := omega) only [lett_e, bnd_s, bnd_chk, br_not, br_t, br_f, br_T, br_F, not_true_eq_false, not_false_eq_true, chk_T, chk_F, chk_eq, eqI_dc, ltI_dc, leI_dc, eqN_dc, notB_dc, andB_dc, andB_t, eqB_dc, notB_t, notB_f, inR_dc, upR_dc, ln_e, app_e, tk_e, dp_e, upd_e, repl_e, natI_n, br_pos, br_neg, addI_n, fitN_T, fit0 hs.wait, fit0 hs.notes, fit0 hs.flights, fit0 hs.cases_, List.nil_append, h1, h2, h3]
theorem impl_copyHall_f {k : Nat} (hk : K0 ≤ k) (x : HallT) (hs : SzH x) : impl_copyHall.f k x = some (x, ()) := by
  have h1 := impl_copyBelt_f k (x.2.2.2.2.1, x.2.2.2.2.2.1, x.2.2.2.2.2.2.1, x.2.2.2.2.2.2.2.1, ()) hs.items
  have h2 := impl_copyStore_f hk (x.2.2.2.2.2.2.2.2.2.2.2.2.1, x.2.2.2.2.2.2.2.2.2.2.2.2.2.1, ()) hs.lanes hs.kept
  have h3 := impl_copyLoop_f hk (x.2.2.2.2.2.2.2.2.1, x.2.2.2.2.2.2.2.2.2.1, x.2.2.2.2.2.2.2.2.2.2.1, x.2.2.2.2.2.2.2.2.2.2.2.1, ()) hs.trays hs.chutes hs.bags hs.wants hs.told
  unfold impl_copyHall.f
  simp (disch := omega) only [lett_e, bnd_s, bnd_chk, br_not, br_t, br_f, br_T, br_F, not_true_eq_false, not_false_eq_true, chk_T, chk_F, chk_eq, eqI_dc, ltI_dc, leI_dc, eqN_dc, notB_dc, andB_dc, andB_t, eqB_dc, notB_t, notB_f, inR_dc, upR_dc, ln_e, app_e, tk_e, dp_e, upd_e, repl_e, natI_n, br_pos, br_neg, addI_n, fitN_T, slices_Clone_int_int_f k hs.wait, slices_Clone_impl_Note_f k hs.notes, slices_Clone_impl_Flight_f k hs.flights, slices_Clone_impl_Case_f k hs.cases_, h1, h2, h3]
abbrev hallOf (P : List (Int × Unit) × Unit) (M : Int × Int × Unit) (B : BeltT) (L : LoopT) (S : StoreT) (F : List FlightT) : HallT := (0, P.1, M.1, M.2.1, B.1, B.2.1, B.2.2.1, B.2.2.2.1, L.1, L.2.1, L.2.2.1, L.2.2.2.1, S.1, S.2.1, [], F, [], ())
def hall0 : HallT := (0, [], 0, 0, 0, 0, false, [], [], 0, [], [], 0, [], [], [], [], ())
noncomputable def newM (P : List (Int × Unit) × Unit) (M : Int × Int × Unit) (B : BeltT) (L : LoopT) (S : StoreT) (F : List FlightT) : HallT := @ite _ (HallP (hallOf P M B L S F)) (Classical.propDecidable _) (hallOf P M B L S F) hall0
theorem spec_NewHall_f {k : Nat} (hk : K0 ≤ k) (P : List (Int × Unit) × Unit) (M : Int × Int × Unit) (B : BeltT) (L : LoopT) (S : StoreT) (F : List FlightT) (hs : SzH (hallOf P M B L S F)) : spec_NewHall.f k P M B L S F = some (newM P M B L S F, dc (HallP (hallOf P M B L S F)), ()) := by
  have h1 := spec_l09Copy_f hk _ hs
  have h2 := spec_HallOk_f hk _ hs
  unfold spec_NewHall.f
  by_cases hP : HallP (hallOf P M B L S F)
  · rw [show newM P M B L S F = hallOf P M B L S F from if_pos hP]
    rw [h1, bnd_s, h2, bnd_chk, br_not, br_pos hP, dc_T hP]
  · rw [show newM P M B L S F = hall0 from if_neg hP]
    rw [h1, bnd_s, h2, bnd_chk, br_not, br_neg hP, dc_F hP]
    rfl
theorem impl_NewHall_f {k : Nat} (hk : K0 ≤ k) (P : List (Int × Unit) × Unit) (M : Int × Int × Unit) (B : BeltT) (L : LoopT) (S : StoreT) (F : List FlightT) (hs : SzT (hallOf P M B L S F)) : impl_NewHall.f k P M B L S F = some (newM P M B L S F, dc (HallP (hallOf P M B L S F)), ()) := by
  have h1 := impl_copyHall_f hk _ hs.toSzH
  have h2 := impl_HallOk_f hk _ hs
  rw [chk_congr (hall_same _)] at h2
  unfold impl_NewHall.f
  by_cases hP : HallP (hallOf P M B L S F)
  · rw [show newM P M B L S F = hallOf P M B L S F from if_pos hP]
    rw [h2, bnd_chk, br_not, br_pos hP, h1, bnd_s, dc_T hP]
  · rw [show newM P M B L S F = hall0 from if_neg hP]
    rw [h2, bnd_chk, br_not, br_neg hP, dc_F hP]
    rfl
theorem newM_sz {P : List (Int × Unit) × Unit} {M : Int × Int × Unit} {B : BeltT} {L : LoopT} {S : StoreT} {F : List FlightT} (hs : SzH (hallOf P M B L S F)) : SzH (newM P M B L S F) := by
  unfold newM
  split
  · exact hs
  · exact ⟨by simp [hall0], by simp [hall0], by simp [hall0], by simp [hall0], by simp [hall0], by simp [hall0], by simp [hall0], by simp [hall0], by simp [hall0], by simp [hall0], by simp [hall0], by simp [hall0]⟩
end Go.Proofs.YtpihkhknehadbabGreat.Eng
