/- slices.SortStableFunc at pieces: symMerge. No condition. -/
import Derived.Test.YtcfbjloblbhdhaaPStab2
import Derived.Test.YtcfbjloblbhdhaaDFnExactRepack
namespace Go.Proofs.Ytcfbjloblbhdhaa.Eng
set_option linter.unusedVariables false
set_option linter.unusedSimpArgs false
theorem half_n {x : Nat} (h : x < 4611686018427387904) : cvtI .i64 (shrI .u64 (cvtI .u64 (x : Int)) 1) = ((x / 2 : Nat) : Int) := by
  have := half_nat x 0 (by omega)
  rw [show ((0 : Nat) : Int) = 0 from rfl, addI_id (by omega)] at this
  simpa using this
theorem lt_ii {α : Type} (i : Nat) (a b : Option α) : br (ltI (i : Int) (i : Int)) a b = b := by rw [ltI_dc, br_neg (by omega)]
theorem lett_j {α β : Type} (x : α) (j : α → Option β) (f : (α → Option β) → Option β) (h : f j = j x) : lett j f = j x := h
theorem sym_f {k : Nat} (hk : K0 ≤ k) : ∀ (f : Nat) (A X Y B : List Pc), 0 < X.length → 0 < Y.length → X.length + Y.length ≤ f → (A ++ X ++ Y ++ B).length ≤ 1048576 →
    ∃ Z, slices_symMergeCmpFunc_impl_Piece.fn f k (A ++ X ++ Y ++ B, (A.length : Int), ((A.length + X.length : Nat) : Int), ((A.length + X.length + Y.length : Nat) : Int), ()) = some (A ++ Z ++ B, ()) ∧ Z.Perm (X ++ Y) ∧ (Srt ltP X → Srt ltP Y → Srt ltP Z) := by
  have hk' := hk
  unfold K0 at hk
  intro f
  induction f with
  | zero => intro A X Y B h1 h2 h3; omega
  | succ f ih =>
  intro A X Y B hX hY hf hl
  have hl' : A.length + X.length + Y.length + B.length ≤ 1048576 := by simp at hl; omega
  show ∃ Z, slices_symMergeCmpFunc_impl_Piece.body (slices_symMergeCmpFunc_impl_Piece.fn f) k (A ++ X ++ Y ++ B) (A.length : Int) ((A.length + X.length : Nat) : Int) ((A.length + X.length + Y.length : Nat) : Int) = _ ∧ _
  unfold slices_symMergeCmpFunc_impl_Piece.body
  rw [subI_nn (a := A.length + X.length) (by omega), subI_nn (a := A.length + X.length + Y.length) (b := A.length + X.length) (by omega)]
  by_cases c1 : X.length = 1
  · obtain ⟨x, rfl⟩ := List.length_eq_one_iff.1 c1
    rw [eqI_dc, br_pos (by simp)]
    generalize hL : A ++ [x] ++ Y ++ B = L at *
    have hLl : L.length = A.length + 1 + Y.length + B.length := by rw [← hL]; simp; omega
    have rx : rP L A.length = x := by rw [← hL]; exact rd_mid' A (Y ++ B) x rfl |> (by simpa using ·)
    refine bs_in (P := fun r => ∃ Z, r = some (A ++ Z ++ B, ()) ∧ Z.Perm ([x] ++ Y) ∧ (Srt ltP [x] → Srt ltP Y → Srt ltP Z)) (lo := A.length + 1) (hi := A.length + 1 + Y.length) (J := ?J) (fun c => ltP (rP L c) x) ?hF1 ?hF2 rfl (by omega) (by omega) ?hP
    case hF1 =>
      intro i j rec h1 h2 h3
      obtain ⟨c, hc, hlt⟩ := repack_cmp (k := k) hk' (rP L ((i + j) / 2)) (rP L A.length)
      have hc' : impl_Repack_1.f k (rdP (0, 0, 0, ()) L ((i + j) / 2)) (rdP (0, 0, 0, ()) L A.length) = some (c, ()) := hc
      rw [rx] at hlt
      simp only [pc_eta]
      simp (disch := omega) only [lett_e, bnd_s, bnd_chk, br_not, br_t, br_f, br_T, br_F, not_true_eq_false, not_false_eq_true, chk_T, chk_F, chk_eq, eqI_dc, ltI_dc, leI_dc, eqN_dc, notB_dc, andB_dc, andB_t, eqB_dc, notB_t, notB_f, inR_dc, upR_dc, ln_e, app_e, tk_e, dp_e, upd_e, repl_e, natI_n, br_pos, br_neg, addI_nat, addI_nn, subI_n1, subI_nn, fitN_T, List.length_set, List.length_append, List.length_cons, List.length_nil, half_n, hc', pc_eta]
      rw [br_iff hlt]
    case hF2 => intro i rec h1 h2; exact lt_ii _ _ _
    case hP =>
      intro i h1 h2 h3 h4
      have eY : Y = Y.take (i - (A.length + 1)) ++ Y.drop (i - (A.length + 1)) := (List.take_append_drop _ _).symm
      have l1 : (Y.take (i - (A.length + 1))).length = i - (A.length + 1) := by simp; omega
      generalize Y.take (i - (A.length + 1)) = Y1 at *
      generalize Y.drop (i - (A.length + 1)) = Y2 at *
      subst eY
      have hi : i = A.length + 1 + Y1.length := by omega
      refine up_in (P := fun r => ∃ Z, r = some (A ++ Z ++ B, ()) ∧ Z.Perm ([x] ++ (Y1 ++ Y2)) ∧ (Srt ltP [x] → Srt ltP (Y1 ++ Y2) → Srt ltP Z)) (J := fun l => some (l, ())) A Y1 (Y2 ++ B) x ?h1 ?h2 ?e ?hl (by omega) ⟨Y1 ++ x :: Y2, by simp, List.perm_middle, fun _ hs => ?_⟩
      case h1 => intro l rec; simp (disch := omega) only [lett_e, bnd_s, bnd_chk, br_not, br_t, br_f, br_T, br_F, not_true_eq_false, not_false_eq_true, chk_T, chk_F, chk_eq, eqI_dc, ltI_dc, leI_dc, eqN_dc, notB_dc, andB_dc, andB_t, eqB_dc, notB_t, notB_f, inR_dc, upR_dc, ln_e, app_e, tk_e, dp_e, upd_e, repl_e, natI_n, br_pos, br_neg, addI_nat, addI_nn, subI_n1, subI_nn, fitN_T, List.length_set, List.length_append, List.length_cons, List.length_nil]
      case h2 => intro l j rec q1 q2 q3 q4; simp (disch := omega) only [lett_e, bnd_s, bnd_chk, br_not, br_t, br_f, br_T, br_F, not_true_eq_false, not_false_eq_true, chk_T, chk_F, chk_eq, eqI_dc, ltI_dc, leI_dc, eqN_dc, notB_dc, andB_dc, andB_t, eqB_dc, notB_t, notB_f, inR_dc, upR_dc, ln_e, app_e, tk_e, dp_e, upd_e, repl_e, natI_n, br_pos, br_neg, addI_nat, addI_nn, subI_n1, subI_nn, fitN_T, List.length_set, List.length_append, List.length_cons, List.length_nil, pc_eta]
      case e => rw [← hL]; simp
      case hl => simp at hLl ⊢; omega
      refine srt_put ordP hs (fun A' y e => ?_) (fun y B' e => ?_)
      · subst e
        rcases h3 with h | h
        · simp at hi; omega
        · have : rP L (i - 1) = y := by rw [← hL]; exact (by simpa using rd_mid' (d := (0, 0, 0, ())) (A ++ [x] ++ A') (Y2 ++ B) y (n := i - 1) (by simp at hi ⊢ <;> omega))
          rw [this] at h
          exact ordP.asymm _ _ h
      · subst e
        rcases h4 with h | h
        · simp at h; omega
        · have : rP L i = y := by rw [← hL]; exact (by simpa using rd_mid' (d := (0, 0, 0, ())) (A ++ [x] ++ Y1) (B' ++ B) y (n := i) (by simp; omega))
          rwa [this] at h
  by_cases c2 : Y.length = 1
  · obtain ⟨y, rfl⟩ := List.length_eq_one_iff.1 c2
    rw [eqI_dc, br_neg (by omega), eqI_dc, br_pos (by simp)]
    generalize hL : A ++ X ++ [y] ++ B = L at *
    have hLl : L.length = A.length + X.length + 1 + B.length := by rw [← hL]; simp; omega
    have ry : rP L (A.length + X.length) = y := by rw [← hL]; exact (by simpa using rd_mid' (d := (0, 0, 0, ())) (A ++ X) B y (n := A.length + X.length) (by simp))
    refine bs_in (P := fun r => ∃ Z, r = some (A ++ Z ++ B, ()) ∧ Z.Perm (X ++ [y]) ∧ (Srt ltP X → Srt ltP [y] → Srt ltP Z)) (lo := A.length) (hi := A.length + X.length) (J := ?Jb) (fun c => ¬ ltP y (rP L c)) ?hF1b ?hF2b rfl (by omega) (by omega) ?hPb
    case hF1b =>
      intro i j rec h1 h2 h3
      obtain ⟨c, hc, hlt⟩ := repack_cmp (k := k) hk' (rP L (A.length + X.length)) (rP L ((i + j) / 2))
      have hc' : impl_Repack_1.f k (rdP (0, 0, 0, ()) L (A.length + X.length)) (rdP (0, 0, 0, ()) L ((i + j) / 2)) = some (c, ()) := hc
      rw [ry] at hlt
      simp only [pc_eta]
      simp (disch := omega) only [lett_e, bnd_s, bnd_chk, br_not, br_t, br_f, br_T, br_F, not_true_eq_false, not_false_eq_true, chk_T, chk_F, chk_eq, eqI_dc, ltI_dc, leI_dc, eqN_dc, notB_dc, andB_dc, andB_t, eqB_dc, notB_t, notB_f, inR_dc, upR_dc, ln_e, app_e, tk_e, dp_e, upd_e, repl_e, natI_n, br_pos, br_neg, addI_nat, addI_nn, subI_n1, subI_nn, fitN_T, List.length_set, List.length_append, List.length_cons, List.length_nil, half_n, hc', pc_eta]
      rw [br_iff (not_congr hlt)]
    case hF2b => intro i rec h1 h2; exact lt_ii _ _ _
    case hPb =>
      intro i h1 h2 h3 h4
      have eX : X = X.take (i - A.length) ++ X.drop (i - A.length) := (List.take_append_drop _ _).symm
      have l1 : (X.take (i - A.length)).length = i - A.length := by simp; omega
      generalize X.take (i - A.length) = X1 at *
      generalize X.drop (i - A.length) = X2 at *
      subst eX
      have hi : i = A.length + X1.length := by omega
      refine dn_in (P := fun r => ∃ Z, r = some (A ++ Z ++ B, ()) ∧ Z.Perm (X1 ++ X2 ++ [y]) ∧ (Srt ltP (X1 ++ X2) → Srt ltP [y] → Srt ltP Z)) (J := fun l => some (l, ())) (A ++ X1) X2 B y ?h1b ?h2b ?eb ?hlb (by simp at hX hl'; omega) ⟨X1 ++ y :: X2, by simp, ?_, fun hs _ => ?_⟩
      case h1b => intro l rec; rw [hi]; simp (disch := omega) only [lett_e, bnd_s, bnd_chk, br_not, br_t, br_f, br_T, br_F, not_true_eq_false, not_false_eq_true, chk_T, chk_F, chk_eq, eqI_dc, ltI_dc, leI_dc, eqN_dc, notB_dc, andB_dc, andB_t, eqB_dc, notB_t, notB_f, inR_dc, upR_dc, ln_e, app_e, tk_e, dp_e, upd_e, repl_e, natI_n, br_pos, br_neg, addI_nat, addI_nn, subI_n1, subI_nn, fitN_T, List.length_set, List.length_append, List.length_cons, List.length_nil]
      case h2b => intro l j rec q1 q2 q3; simp only [List.length_append] at q1; rw [hi]; simp (disch := omega) only [lett_e, bnd_s, bnd_chk, br_not, br_t, br_f, br_T, br_F, not_true_eq_false, not_false_eq_true, chk_T, chk_F, chk_eq, eqI_dc, ltI_dc, leI_dc, eqN_dc, notB_dc, andB_dc, andB_t, eqB_dc, notB_t, notB_f, inR_dc, upR_dc, ln_e, app_e, tk_e, dp_e, upd_e, repl_e, natI_n, br_pos, br_neg, addI_nat, addI_nn, subI_n1, subI_nn, fitN_T, List.length_set, List.length_append, List.length_cons, List.length_nil, pc_eta]
      case eb => rw [← hL]; simp [Nat.add_assoc]
      case hlb => simp at hLl ⊢; omega
      · have := List.Perm.append_left X1 (List.perm_append_comm (l₁ := [y]) (l₂ := X2))
        simpa using this
      refine srt_put ordP hs (fun A' z e => ?_) (fun z B' e => ?_)
      · subst e
        rcases h3 with h | h
        · simp at hi; omega
        · have : rP L (i - 1) = z := by rw [← hL]; exact (by simpa using rd_mid' (d := (0, 0, 0, ())) (A ++ A') (X2 ++ [y] ++ B) z (n := i - 1) (by simp at hi ⊢ <;> omega))
          rwa [this] at h
      · subst e
        rcases h4 with h | h
        · simp at h; omega
        · have : rP L i = z := by rw [← hL]; exact (by simpa using rd_mid' (d := (0, 0, 0, ())) (A ++ X1) (B' ++ [y] ++ B) z (n := i) (by simp; omega))
          rw [this] at h
          exact ordP.asymm _ _ (Classical.not_not.1 h)
  rw [eqI_dc, br_neg (by omega), eqI_dc, br_neg (by omega)]
  rw [leI_dc, br_pos (by omega)]
  generalize hL : A ++ X ++ Y ++ B = L at *
  have hLl : L.length = A.length + X.length + Y.length + B.length := by rw [← hL]; simp; omega
  obtain ⟨m, hm⟩ : ∃ m, m = A.length + X.length := ⟨_, rfl⟩
  obtain ⟨b, hb⟩ : ∃ b, b = A.length + X.length + Y.length := ⟨_, rfl⟩
  obtain ⟨mid, hmid⟩ : ∃ mid, mid = (A.length + b) / 2 := ⟨_, rfl⟩
  rw [← hb, ← hm, addI_nn (a := A.length) (by omega), half_n (by omega), ← hmid]
  have main : ∀ s0 r0 : Nat, ((mid < m ∧ s0 = mid + m - b ∧ r0 = mid) ∨ (m ≤ mid ∧ s0 = A.length ∧ r0 = m)) → ∀ (F : (Int × Int × Unit → Option (List Pc × Unit)) → Int × Int × Unit → Option (List Pc × Unit)) (J : Nat → Option (List Pc × Unit)),
      (∀ (i j : Nat) rec, s0 ≤ i → i < j → j ≤ r0 → F rec ((i : Int), (j : Int), ()) = br (dc (¬ ltP (rP L (mid + m - 1 - (i + j) / 2)) (rP L ((i + j) / 2)))) (rec ((((i + j) / 2 + 1 : Nat) : Int), (j : Int), ())) (rec ((i : Int), (((i + j) / 2 : Nat) : Int), ()))) →
      (∀ (i : Nat) rec, s0 ≤ i → i ≤ r0 → F rec ((i : Int), (i : Int), ()) = J i) →
      (∀ (X1 X2 Y1 Y2 : List Pc) (s : Nat), X = X1 ++ X2 → Y = Y1 ++ Y2 → A.length + X1.length = s → s + Y1.length = mid → (Srt ltP X → Srt ltP Y → ∀ Z1 Z2 : List Pc, Z1.Perm (X1 ++ Y1) → Z2.Perm (X2 ++ Y2) → Srt ltP Z1 → Srt ltP Z2 → Srt ltP (Z1 ++ Z2)) →
        ∃ Z, J s = some (A ++ Z ++ B, ()) ∧ Z.Perm (X ++ Y) ∧ (Srt ltP X → Srt ltP Y → Srt ltP Z)) →
      ∃ Z, loopN F k ((s0 : Int), (r0 : Int), ()) = some (A ++ Z ++ B, ()) ∧ Z.Perm (X ++ Y) ∧ (Srt ltP X → Srt ltP Y → Srt ltP Z) := by
    intro s0 r0 hs F J h1 h2 h3
    refine bs_in (P := fun r => ∃ Z, r = some (A ++ Z ++ B, ()) ∧ Z.Perm (X ++ Y) ∧ (Srt ltP X → Srt ltP Y → Srt ltP Z)) (lo := s0) (hi := r0) (fun c => ¬ ltP (rP L (mid + m - 1 - c)) (rP L c)) h1 h2 rfl (by omega) (by omega) ?_
    intro s g1 g2 g3 g4
    have eX : X = X.take (s - A.length) ++ X.drop (s - A.length) := (List.take_append_drop _ _).symm
    have l1 : (X.take (s - A.length)).length = s - A.length := by simp; omega
    have eY : Y = Y.take (mid - s) ++ Y.drop (mid - s) := (List.take_append_drop _ _).symm
    have l2 : (Y.take (mid - s)).length = mid - s := by simp; omega
    generalize X.take (s - A.length) = X1 at *
    generalize X.drop (s - A.length) = X2 at *
    generalize Y.take (mid - s) = Y1 at *
    generalize Y.drop (mid - s) = Y2 at *
    subst eX; subst eY
    simp only [List.length_append] at *
    refine h3 X1 X2 Y1 Y2 s rfl rfl (by omega) (by omega) (fun hsx hsy Z1 Z2 p1 p2 s1 s2 => srt_split ordP hsx hsy (fun A' x y B' e1 e2 => ?_) (fun A' y x B' e1 e2 => ?_) p1 p2 s1 s2)
    · subst e1; subst e2
      simp only [List.length_append, List.length_cons, List.length_nil] at *
      rcases g3 with h | h
      · omega
      · have q1 : rP L (s - 1) = x := by rw [← hL]; exact (by simpa using rd_mid' (d := (0, 0, 0, ())) (A ++ A') (X2 ++ Y1 ++ y :: B' ++ B) x (n := s - 1) (by simp; omega))
        have q2 : rP L (mid + m - 1 - (s - 1)) = y := by rw [← hL]; exact (by simpa using rd_mid' (d := (0, 0, 0, ())) (A ++ (A' ++ [x] ++ X2) ++ Y1) (B' ++ B) y (n := mid + m - 1 - (s - 1)) (by simp; omega))
        rwa [q1, q2] at h
    · subst e1; subst e2
      simp only [List.length_append, List.length_cons, List.length_nil] at *
      rcases g4 with h | h
      · omega
      · have q1 : rP L s = x := by rw [← hL]; exact (by simpa using rd_mid' (d := (0, 0, 0, ())) (A ++ X1) (B' ++ (A' ++ [y] ++ Y2) ++ B) x (n := s) (by simp; omega))
        have q2 : rP L (mid + m - 1 - s) = y := by rw [← hL]; exact (by simpa using rd_mid' (d := (0, 0, 0, ())) (A ++ (X1 ++ x :: B') ++ A') (Y2 ++ B) y (n := mid + m - 1 - s) (by simp; omega))
        rw [q1, q2] at h
        exact ordP.asymm _ _ (Classical.not_not.1 h)
  have ea : addI .i64 (mid : Int) (m : Int) = ((mid + m : Nat) : Int) := addI_nn (by omega)
  have ea1 : subI .i64 ((mid + m : Nat) : Int) 1 = ((mid + m - 1 : Nat) : Int) := subI_n1 (by omega)
  rw [lett_e]
  -- the rounds of the search
  have stp : ∀ (s0 r0 i j : Nat) (hs : (mid < m ∧ s0 = mid + m - b ∧ r0 = mid) ∨ (m ≤ mid ∧ s0 = A.length ∧ r0 = m)) (h1 : s0 ≤ i) (h2 : i < j) (h3 : j ≤ r0) (p q z : Option (List Pc × Unit)), br (ltI (i : Int) (j : Int)) (br (dc ((0 : Int) ≤ 1)) (br (inR (subI .i64 ((mid + m - 1 : Nat) : Int) (((i + j) / 2 : Nat) : Int)) (ln L)) (lett (rdP (0, 0, 0, ()) L (natI (subI .i64 ((mid + m - 1 : Nat) : Int) (((i + j) / 2 : Nat) : Int)))) fun e31 => br (inR (((i + j) / 2 : Nat) : Int) (ln L)) (lett (rdP (0, 0, 0, ()) L (natI (((i + j) / 2 : Nat) : Int))) fun e32 =>
      bnd (impl_Repack_1.f k (e31.1, e31.2.1, e31.2.2.1, ()) (e32.1, e32.2.1, e32.2.2.1, ())) fun y33 => br (notB (ltI y33.1 0)) p q) none) none) none) z = br (dc (¬ ltP (rP L (mid + m - 1 - (i + j) / 2)) (rP L ((i + j) / 2)))) p q := by
    intro s0 r0 i j hs h1 h2 h3 p q z
    obtain ⟨c, hc, hlt⟩ := repack_cmp (k := k) hk' (rP L (mid + m - 1 - (i + j) / 2)) (rP L ((i + j) / 2))
    have hc' : impl_Repack_1.f k (rdP (0, 0, 0, ()) L (mid + m - 1 - (i + j) / 2)) (rdP (0, 0, 0, ()) L ((i + j) / 2)) = some (c, ()) := hc
    rw [ltI_dc, br_pos (by omega), br_pos (by omega), subI_nn (by omega), inR_dc, br_pos ⟨by omega, by rw [ln_e]; omega⟩, lett_e, inR_dc, br_pos ⟨by omega, by rw [ln_e]; omega⟩, lett_e, natI_n, natI_n, pc_eta, pc_eta, hc', bnd_s, ltI_dc, notB_dc, br_iff (not_congr hlt)]
  -- what comes behind it
  have rst : ∀ (X1 X2 Y1 Y2 : List Pc) (s : Nat), X = X1 ++ X2 → Y = Y1 ++ Y2 → A.length + X1.length = s → s + Y1.length = mid →
      ∃ Z1 Z2 : List Pc, (∀ j : List Pc × Unit → Option (List Pc × Unit), br (ltI (s : Int) (m : Int)) (br (ltI (m : Int) ((mid + m - s : Nat) : Int)) (bnd (slices_rotateCmpFunc_impl_Piece.f k L (s : Int) (m : Int) ((mid + m - s : Nat) : Int)) fun y => j (y.1, ())) (j (L, ()))) (j (L, ())) = j (A ++ X1 ++ Y1 ++ X2 ++ Y2 ++ B, ())) ∧
        (∀ j : List Pc × Unit → Option (List Pc × Unit), br (ltI (A.length : Int) (s : Int)) (br (ltI (s : Int) (mid : Int)) (bnd (slices_symMergeCmpFunc_impl_Piece.fn f k (A ++ X1 ++ Y1 ++ X2 ++ Y2 ++ B, (A.length : Int), (s : Int), (mid : Int), ())) fun y => j (y.1, ())) (j (A ++ X1 ++ Y1 ++ X2 ++ Y2 ++ B, ()))) (j (A ++ X1 ++ Y1 ++ X2 ++ Y2 ++ B, ())) = j (A ++ Z1 ++ X2 ++ Y2 ++ B, ())) ∧
        br (ltI (mid : Int) ((mid + m - s : Nat) : Int)) (br (ltI ((mid + m - s : Nat) : Int) (b : Int)) (bnd (slices_symMergeCmpFunc_impl_Piece.fn f k (A ++ Z1 ++ X2 ++ Y2 ++ B, (mid : Int), ((mid + m - s : Nat) : Int), (b : Int), ())) fun y => some (y.1, ())) (some (A ++ Z1 ++ X2 ++ Y2 ++ B, ()))) (some (A ++ Z1 ++ X2 ++ Y2 ++ B, ())) = some (A ++ (Z1 ++ Z2) ++ B, ()) ∧
        Z1.Perm (X1 ++ Y1) ∧ Z2.Perm (X2 ++ Y2) ∧ (Srt ltP X → Srt ltP Y → Srt ltP Z1 ∧ Srt ltP Z2) := by
    intro X1 X2 Y1 Y2 s eX eY hs1 hs2
    subst eX; subst eY
    simp only [List.length_append] at *
    have hsort1 : Srt ltP (X1 ++ X2) → Srt ltP (Y1 ++ Y2) → (Srt ltP X1 ∧ Srt ltP X2) ∧ Srt ltP Y1 ∧ Srt ltP Y2 := fun h1 h2 => ⟨⟨(List.pairwise_append.1 h1).1, (List.pairwise_append.1 h1).2.1⟩, (List.pairwise_append.1 h2).1, (List.pairwise_append.1 h2).2.1⟩
    have z1 : ∃ Z1 : List Pc, (∀ j : List Pc × Unit → Option (List Pc × Unit), br (ltI (A.length : Int) (s : Int)) (br (ltI (s : Int) (mid : Int)) (bnd (slices_symMergeCmpFunc_impl_Piece.fn f k (A ++ X1 ++ Y1 ++ X2 ++ Y2 ++ B, (A.length : Int), (s : Int), (mid : Int), ())) fun y => j (y.1, ())) (j (A ++ X1 ++ Y1 ++ X2 ++ Y2 ++ B, ()))) (j (A ++ X1 ++ Y1 ++ X2 ++ Y2 ++ B, ())) = j (A ++ Z1 ++ X2 ++ Y2 ++ B, ())) ∧ Z1.Perm (X1 ++ Y1) ∧ (Srt ltP X1 → Srt ltP Y1 → Srt ltP Z1) := by
      by_cases g : 0 < X1.length ∧ 0 < Y1.length
      · obtain ⟨Z, e1, e2, e3⟩ := ih A X1 Y1 (X2 ++ Y2 ++ B) g.1 g.2 (by omega) (by simp; omega)
        refine ⟨Z, fun j => ?_, e2, e3⟩
        rw [show A ++ X1 ++ Y1 ++ (X2 ++ Y2 ++ B) = A ++ X1 ++ Y1 ++ X2 ++ Y2 ++ B by simp, hs1, hs2] at e1
        rw [ltI_dc, br_pos (by omega), ltI_dc, br_pos (by omega), e1]
        simp [bnd]
      · refine ⟨X1 ++ Y1, fun j => ?_, List.Perm.refl _, fun h1 h2 => ?_⟩
        · rw [show A ++ (X1 ++ Y1) ++ X2 ++ Y2 ++ B = A ++ X1 ++ Y1 ++ X2 ++ Y2 ++ B by simp]
          by_cases g1 : A.length < s
          · rw [ltI_dc, br_pos (by omega), ltI_dc, br_neg (by omega)]
          · rw [ltI_dc, br_neg (by omega)]
        · cases X1 with
          | nil => simpa using h2
          | cons _ _ => cases Y1 with
            | nil => simpa using h1
            | cons _ _ => exact absurd ⟨by simp, by simp⟩ g
    obtain ⟨Z1, w1, w2, w3⟩ := z1
    have lz : Z1.length = X1.length + Y1.length := by rw [w2.length_eq]; simp
    have z2 : ∃ Z2 : List Pc, br (ltI (mid : Int) ((mid + m - s : Nat) : Int)) (br (ltI ((mid + m - s : Nat) : Int) (b : Int)) (bnd (slices_symMergeCmpFunc_impl_Piece.fn f k (A ++ Z1 ++ X2 ++ Y2 ++ B, (mid : Int), ((mid + m - s : Nat) : Int), (b : Int), ())) fun y => some (y.1, ())) (some (A ++ Z1 ++ X2 ++ Y2 ++ B, ()))) (some (A ++ Z1 ++ X2 ++ Y2 ++ B, ())) = some (A ++ (Z1 ++ Z2) ++ B, ()) ∧ Z2.Perm (X2 ++ Y2) ∧ (Srt ltP X2 → Srt ltP Y2 → Srt ltP Z2) := by
      by_cases g : 0 < X2.length ∧ 0 < Y2.length
      · obtain ⟨Z, e1, e2, e3⟩ := ih (A ++ Z1) X2 Y2 B g.1 g.2 (by omega) (by simp; omega)
        refine ⟨Z, ?_, e2, e3⟩
        simp only [List.length_append] at e1
        rw [show A.length + Z1.length = mid by omega, show mid + X2.length = mid + m - s by omega, show mid + m - s + Y2.length = b by omega] at e1
        rw [ltI_dc, br_pos (by omega), ltI_dc, br_pos (by omega), e1]
        simp [bnd]
      · refine ⟨X2 ++ Y2, ?_, List.Perm.refl _, fun h1 h2 => ?_⟩
        · rw [show A ++ (Z1 ++ (X2 ++ Y2)) ++ B = A ++ Z1 ++ X2 ++ Y2 ++ B by simp]
          by_cases g1 : mid < mid + m - s
          · rw [ltI_dc, br_pos (by omega), ltI_dc, br_neg (by omega)]
          · rw [ltI_dc, br_neg (by omega)]
        · cases X2 with
          | nil => simpa using h2
          | cons _ _ => cases Y2 with
            | nil => simpa using h1
            | cons _ _ => exact absurd ⟨by simp, by simp⟩ g
    obtain ⟨Z2, v1, v2, v3⟩ := z2
    refine ⟨Z1, Z2, fun j => ?_, w1, v1, w2, v2, fun h1 h2 => ⟨w3 (hsort1 h1 h2).1.1 (hsort1 h1 h2).2.1, v3 (hsort1 h1 h2).1.2 (hsort1 h1 h2).2.2⟩⟩
    by_cases g : 0 < X2.length ∧ 0 < Y1.length
    · have := rot_f (k := k) hk' (A ++ X1) X2 Y1 (Y2 ++ B) g.1 g.2 (by simp; omega)
      simp only [List.length_append] at this
      rw [show A ++ X1 ++ X2 ++ Y1 ++ (Y2 ++ B) = L by rw [← hL]; simp, hs1, show s + X2.length = m by omega, show m + Y1.length = mid + m - s by omega] at this
      rw [ltI_dc, br_pos (by omega), ltI_dc, br_pos (by omega), this]
      simp [bnd]
    · have e : L = A ++ X1 ++ Y1 ++ X2 ++ Y2 ++ B := by
        rw [← hL]
        cases X2 with
        | nil => simp
        | cons _ _ => cases Y1 with
          | nil => simp
          | cons _ _ => exact absurd ⟨by simp, by simp⟩ g
      rw [← e]
      by_cases g1 : s < m
      · rw [ltI_dc, br_pos (by omega), ltI_dc, br_neg (by omega)]
      · rw [ltI_dc, br_neg (by omega)]
  have fin : ∀ (J : Nat → Option (List Pc × Unit)), (∀ s, J s = lett (fun (c34 : List Pc × Unit) => lett (fun (c36 : List Pc × Unit) => br (ltI (mid : Int) (subI .i64 ((mid + m : Nat) : Int) (s : Int))) (br (ltI (subI .i64 ((mid + m : Nat) : Int) (s : Int)) (b : Int)) (bnd (slices_symMergeCmpFunc_impl_Piece.fn f k (c36.1, (mid : Int), subI .i64 ((mid + m : Nat) : Int) (s : Int), (b : Int), ())) fun y38 => some (y38.1, ())) (some (c36.1, ()))) (some (c36.1, ()))) fun j37 => br (ltI (A.length : Int) (s : Int)) (br (ltI (s : Int) (mid : Int)) (bnd (slices_symMergeCmpFunc_impl_Piece.fn f k (c34.1, (A.length : Int), (s : Int), (mid : Int), ())) fun y39 => j37 (y39.1, ())) (j37 (c34.1, ()))) (j37 (c34.1, ()))) fun j35 =>
        br (ltI (s : Int) (m : Int)) (br (ltI (m : Int) (subI .i64 ((mid + m : Nat) : Int) (s : Int))) (bnd (slices_rotateCmpFunc_impl_Piece.f k L (s : Int) (m : Int) (subI .i64 ((mid + m : Nat) : Int) (s : Int))) fun y40 => j35 (y40.1, ())) (j35 (L, ()))) (j35 (L, ()))) →
      ∀ (X1 X2 Y1 Y2 : List Pc) (s : Nat), X = X1 ++ X2 → Y = Y1 ++ Y2 → A.length + X1.length = s → s + Y1.length = mid → (Srt ltP X → Srt ltP Y → ∀ Z1 Z2 : List Pc, Z1.Perm (X1 ++ Y1) → Z2.Perm (X2 ++ Y2) → Srt ltP Z1 → Srt ltP Z2 → Srt ltP (Z1 ++ Z2)) →
        ∃ Z, J s = some (A ++ Z ++ B, ()) ∧ Z.Perm (X ++ Y) ∧ (Srt ltP X → Srt ltP Y → Srt ltP Z) := by
    intro J hJ X1 X2 Y1 Y2 s eX eY hs1 hs2 hsort
    have e3 : subI .i64 ((mid + m : Nat) : Int) (s : Int) = ((mid + m - s : Nat) : Int) := subI_nn (by omega)
    obtain ⟨Z1, Z2, a1, a2, a3, a4, a5, a6⟩ := rst X1 X2 Y1 Y2 s eX eY hs1 hs2
    refine ⟨Z1 ++ Z2, ?_, (a4.append a5).trans ?_, fun h1 h2 => hsort h1 h2 Z1 Z2 a4 a5 (a6 h1 h2).1 (a6 h1 h2).2⟩
    · rw [hJ s, e3]
      have h36 := a2 (fun c36 => br (ltI (mid : Int) ((mid + m - s : Nat) : Int)) (br (ltI ((mid + m - s : Nat) : Int) (b : Int)) (bnd (slices_symMergeCmpFunc_impl_Piece.fn f k (c36.1, (mid : Int), ((mid + m - s : Nat) : Int), (b : Int), ())) fun y38 => some (y38.1, ())) (some (c36.1, ()))) (some (c36.1, ())))
      have h35 := a1 (fun (c34 : List Pc × Unit) => lett (fun (c36 : List Pc × Unit) => br (ltI (mid : Int) ((mid + m - s : Nat) : Int)) (br (ltI ((mid + m - s : Nat) : Int) (b : Int)) (bnd (slices_symMergeCmpFunc_impl_Piece.fn f k (c36.1, (mid : Int), ((mid + m - s : Nat) : Int), (b : Int), ())) fun y38 => some (y38.1, ())) (some (c36.1, ()))) (some (c36.1, ()))) fun j37 => br (ltI (A.length : Int) (s : Int)) (br (ltI (s : Int) (mid : Int)) (bnd (slices_symMergeCmpFunc_impl_Piece.fn f k (c34.1, (A.length : Int), (s : Int), (mid : Int), ())) fun y39 => j37 (y39.1, ())) (j37 (c34.1, ()))) (j37 (c34.1, ())))
      exact Eq.trans h35 (Eq.trans h36 a3)
    · rw [eX, eY]
      have := (List.perm_append_comm (l₁ := Y1) (l₂ := X2)).append_left X1
      have := this.append_right Y2
      simpa using this
  by_cases hlt : mid < m
  · have eb : subI .i64 ((mid + m : Nat) : Int) (b : Int) = ((mid + m - b : Nat) : Int) := subI_nn (by omega)
    rw [ltI_dc, br_pos (by omega)]
    simp only [ea, ea1, eb]
    refine main (mid + m - b) mid (.inl ⟨hlt, rfl, rfl⟩) _ ?J1 ?s1 ?t1 ?u1
    case t1 => intro i rec h1 h2; exact lt_ii _ _ _
    case s1 =>
      intro i j rec h1 h2 h3
      simp (disch := omega) only [addI_nn, half_n, addI_nat]
      exact stp (mid + m - b) mid i j (.inl ⟨hlt, rfl, rfl⟩) h1 h2 h3 _ _ _
    case u1 => exact fin _ (fun s => rfl)
  · rw [ltI_dc, br_neg (by omega)]
    simp only [ea, ea1]
    refine main A.length m (.inr ⟨by omega, rfl, rfl⟩) _ ?J2 ?s2 ?t2 ?u2
    case t2 => intro i rec h1 h2; exact lt_ii _ _ _
    case s2 =>
      intro i j rec h1 h2 h3
      simp (disch := omega) only [addI_nn, half_n, addI_nat]
      exact stp A.length m i j (.inr ⟨by omega, rfl, rfl⟩) h1 h2 h3 _ _ _
    case u2 => exact fin _ (fun s => rfl)
end Go.Proofs.Ytcfbjloblbhdhaa.Eng
