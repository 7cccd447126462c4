/- The least number of boxes that weights and counts ask for. No condition. -/
import Derived.Test.YtcfbjloblbhdhaaPXcls
import Derived.Test.YtcfbjloblbhdhaaDFnExactRepack
import Derived.Test.YtcfbjloblbhdhaaDFnPacked
namespace Go.Proofs.Ytcfbjloblbhdhaa.Eng
set_option linter.unusedVariables false
set_option linter.unusedSimpArgs false
def share (a b : Int) (q : List Pc) : Int := maxI ((wS q + a - 1) / a) (((q.length : Int) + b - 1) / b)
def bdS (m : LimT) (l : List Pc) : Nat → Int
  | 0 => 0
  | c + 1 => bdS m l c + share m.1 m.2.1 (ofC l (c : Int))
theorem quo_id {x y : Int} (hx : 0 ≤ x ∧ x ≤ 1000000) (hy : 1 ≤ y) : quoI .i64 x y = x / y := by
  have h1 : Int.tdiv x y = x / y := Int.tdiv_eq_ediv_of_nonneg hx.1
  have h2 : 0 ≤ x / y := Int.ediv_nonneg hx.1 (by omega)
  have h3 : x / y ≤ x := Int.ediv_le_self _ hx.1
  unfold quoI
  rw [h1]
  exact wrap_id (by omega)
theorem maxI_cases (a b : Int) : a ≤ maxI a b ∧ b ≤ maxI a b ∧ (maxI a b = a ∨ maxI a b = b) := by
  unfold maxI
  split
  · exact ⟨by omega, by omega, .inr rfl⟩
  · exact ⟨by omega, by omega, .inl rfl⟩
theorem pk_w {W C : Int} {L : List Pc} {bs : List (List Pc)} (h : Pk W C L bs) : wS L ≤ (bs.length : Int) * W ∧ (L.length : Int) ≤ (bs.length : Int) * C := by
  obtain ⟨h1, h2⟩ := h
  rw [← wS_perm h1, ← h1.length_eq]
  clear h1
  induction bs with
  | nil => simp [wS]
  | cons b bs ih =>
    have := ih (fun x hx => h2 x (List.mem_cons_of_mem _ hx))
    have hb := h2 b List.mem_cons_self
    unfold fit at hb
    rw [List.flatten_cons, wS_app, List.length_append, List.length_cons]
    have e1 : ((bs.length + 1 : Nat) : Int) * W = (bs.length : Int) * W + W := by rw [Int.natCast_add, Int.add_mul]; simp
    have e2 : ((bs.length + 1 : Nat) : Int) * C = (bs.length : Int) * C + C := by rw [Int.natCast_add, Int.add_mul]; simp
    rw [e1, e2]
    omega
theorem share_bound {a b : Int} (ho : LimP (a, b, ())) (q : List Pc) (hq : q.length ≤ 40) (hw : ∀ x ∈ q, 1 ≤ x.2.1 ∧ x.2.1 ≤ 60) :
    0 ≤ share a b q ∧ share a b q ≤ 40 ∧ (q ≠ [] → 1 ≤ share a b q) ∧ ∀ bs, Pk a b q bs → share a b q ≤ (bs.length : Int) := by
  obtain ⟨⟨o1, o2⟩, o3, o4⟩ := ho
  dsimp only at o1 o2 o3 o4
  have hb := wS_bound q (fun x hx => by have := hw x hx; omega)
  have p1 : ∀ n : Int, wS q ≤ n * a → (wS q + a - 1) / a ≤ n := by
    intro n hn
    have : (wS q + a - 1) / a < n + 1 := Int.ediv_lt_of_lt_mul (by omega) (by rw [Int.add_mul]; omega)
    omega
  have p2 : ∀ n : Int, (q.length : Int) ≤ n * b → ((q.length : Int) + b - 1) / b ≤ n := by
    intro n hn
    have : ((q.length : Int) + b - 1) / b < n + 1 := Int.ediv_lt_of_lt_mul (by omega) (by rw [Int.add_mul]; omega)
    omega
  have n1 : 0 ≤ (wS q + a - 1) / a := Int.ediv_nonneg (by omega) (by omega)
  have n2 : 0 ≤ ((q.length : Int) + b - 1) / b := Int.ediv_nonneg (by omega) (by omega)
  have m1 : (wS q + a - 1) / a ≤ 40 := p1 40 (by omega)
  have m2 : ((q.length : Int) + b - 1) / b ≤ 40 := p2 40 (by omega)
  obtain ⟨c1, c2, c3⟩ := maxI_cases ((wS q + a - 1) / a) (((q.length : Int) + b - 1) / b)
  unfold share
  refine ⟨by omega, by omega, fun hne => ?_, fun bs hbs => ?_⟩
  · have : 1 ≤ ((q.length : Int) + b - 1) / b := by
      have hl : 0 < q.length := List.length_pos_iff.2 hne
      refine (Int.le_ediv_iff_mul_le (by omega)).2 (by omega)
    omega
  · obtain ⟨k1, k2⟩ := pk_w hbs
    have := p1 _ k1
    have := p2 _ k2
    omega
theorem ofC_mem {l : List Pc} {c : Int} {x : Pc} (h : x ∈ ofC l c) : x ∈ l ∧ x.2.2.1 = c := by
  unfold ofC at h
  have := List.mem_filter.1 h
  exact ⟨this.1, by simpa using this.2⟩
theorem ofC_len (l : List Pc) (c : Int) : (ofC l c).length ≤ l.length := List.length_filter_le _ _
theorem share_of {m : LimT} {l : List Pc} (hm : LimP m) (hp : PiecesP l) (c : Int) : 0 ≤ share m.1 m.2.1 (ofC l c) ∧ share m.1 m.2.1 (ofC l c) ≤ 40 ∧ (ofC l c ≠ [] → 1 ≤ share m.1 m.2.1 (ofC l c)) ∧ ∀ bs, Pk m.1 m.2.1 (ofC l c) bs → share m.1 m.2.1 (ofC l c) ≤ (bs.length : Int) :=
  share_bound hm _ (by have := ofC_len l c; have := hp.1; omega) (fun x hx => (hp.2.1 x (ofC_mem hx).1).2.1)
theorem bdS_b {m : LimT} {l : List Pc} (hm : LimP m) (hp : PiecesP l) : ∀ c : Nat, 0 ≤ bdS m l c ∧ bdS m l c ≤ 40 * c
  | 0 => by simp [bdS]
  | c + 1 => by
    have := bdS_b hm hp c
    have := share_of hm hp (c : Int)
    rw [bdS]; omega
/-- what one class asks for, as it is computed -/
theorem share_eq {m : LimT} (hm : LimP m) (q : List Pc) (hq : q.length ≤ 40) (hw : ∀ x ∈ q, 1 ≤ x.2.1 ∧ x.2.1 ≤ 60) : maxI (quoI .i64 (subI .i64 (addI .i64 (wS q) m.1) 1) m.1) (quoI .i64 (subI .i64 (addI .i64 (q.length : Int) m.2.1) 1) m.2.1) = share m.1 m.2.1 q := by
  obtain ⟨⟨o1, o2⟩, o3, o4⟩ := hm
  have hb := wS_bound q (fun x hx => by have := hw x hx; omega)
  rw [addI_id (by omega), subI_id (by omega), addI_id (by omega), subI_id (by omega), quo_id (by omega) (by omega), quo_id (by omega) (by omega)]
  rfl
theorem impl_BoxBound_f {k : Nat} (hk : K0 ≤ k) (m : LimT) (l : List Pc) (hm : LimP m) (hp : PiecesP l) : impl_BoxBound.f k m l = some (bdS m l 6, ()) := by
  have h1 : impl_LimitsOk.f k (m.1, m.2.1, ()) = chkP (LimP m) := impl_LimitsOk_m k m
  have hl40 := hp.1
  have h2 := impl_PiecesOk_f hk l (by omega)
  have hk' := hk
  unfold K0 at hk'
  obtain ⟨⟨o1, o2⟩, o3, o4⟩ := hm
  have hm : LimP m := ⟨⟨o1, o2⟩, o3, o4⟩
  unfold impl_BoxBound.f
  rw [h1, bnd_chk, br_not, br_pos hm, h2, bnd_chk, br_not, br_pos hp]
  refine loop_run (n := 6) (fun i => (bdS m l i, (i : Int), ())) rfl (fun i hi rec => ?_) (fun rec => by simp (disch := omega) only [lett_e, bnd_s, bnd_chk, br_not, br_t, br_f, br_T, br_F, not_true_eq_false, not_false_eq_true, chk_T, chk_F, chk_eq, eqI_dc, ltI_dc, leI_dc, eqN_dc, notB_dc, andB_dc, andB_t, eqB_dc, notB_t, notB_f, inR_dc, upR_dc, ln_e, app_e, tk_e, dp_e, upd_e, repl_e, natI_n, br_pos, br_neg, addI_n, fitN_T]) (by omega)
  have hcl := impl_ofClass_f hk l (i : Int) (by omega)
  rw [clsM_ofC] at hcl
  have hqm : ∀ x ∈ ofC l (i : Int), 1 ≤ x.2.1 ∧ x.2.1 ≤ 60 := fun x hx => (hp.2.1 x (ofC_mem hx).1).2.1
  have hql := ofC_len l (i : Int)
  have hse := share_eq hm (ofC l (i : Int)) (by omega) hqm
  have hsb := share_of hm hp (i : Int)
  have hbb := bdS_b hm hp i
  dsimp only
  rw [leI_dc, br_pos (by omega), hcl, bnd_s]
  generalize hq : ofC l (i : Int) = q at *
  dsimp only
  refine loop_run (n := q.length) (fun j => (wS (q.take j), (j : Int), ())) (by simp [wS]) (fun j hj rec2 => ?_) (fun rec2 => ?_) (by omega)
  · have hx := hqm (rP q j) (by unfold rP; rw [rd_lt hj]; exact List.getElem_mem hj)
    have hb := wS_bound (q.take j) (fun x hx => by have := hqm x (List.mem_of_mem_take hx); omega)
    rw [List.length_take] at hb
    rw [take_s (d := (0, 0, 0, ())) hj, wS_app, wS_cons, wS_nil, Int.add_zero]
    unfold rP at hx
    simp (disch := omega) only [lett_e, bnd_s, bnd_chk, br_not, br_t, br_f, br_T, br_F, not_true_eq_false, not_false_eq_true, chk_T, chk_F, chk_eq, eqI_dc, ltI_dc, leI_dc, eqN_dc, notB_dc, andB_dc, andB_t, eqB_dc, notB_t, notB_f, inR_dc, upR_dc, ln_e, app_e, tk_e, dp_e, upd_e, repl_e, natI_n, br_pos, br_neg, addI_nat, addI_nn, subI_n1, subI_nn, fitN_T, List.length_set, List.length_append, List.length_cons, List.length_nil, addI_id]
    rfl
  · rw [List.take_length]
    have hadd : addI .i64 (bdS m l i) (share m.1 m.2.1 q) = bdS m l (i + 1) := by rw [addI_id (by omega), bdS, hq]
    simp (disch := omega) only [lett_e, bnd_s, bnd_chk, br_not, br_t, br_f, br_T, br_F, not_true_eq_false, not_false_eq_true, chk_T, chk_F, chk_eq, eqI_dc, ltI_dc, leI_dc, eqN_dc, notB_dc, andB_dc, andB_t, eqB_dc, notB_t, notB_f, inR_dc, upR_dc, ln_e, app_e, tk_e, dp_e, upd_e, repl_e, natI_n, br_pos, br_neg, addI_nat, addI_nn, subI_n1, subI_nn, fitN_T, List.length_set, List.length_append, List.length_cons, List.length_nil, hse, hadd]
theorem spec_BoxBound_f {k : Nat} (hk : K0 ≤ k) (m : LimT) (l : List Pc) (hm : LimP m) (hp : PiecesP l) : spec_BoxBound.f k m l = some (bdS m l 6, ()) := by
  have h1 : spec_LimitsOk.f k (m.1, m.2.1, ()) = chkP (LimP m) := spec_LimitsOk_m k m
  have hl40 := hp.1
  have h2 := spec_PiecesOk_f hk l
  have hk' := hk
  unfold K0 at hk'
  obtain ⟨⟨o1, o2⟩, o3, o4⟩ := hm
  have hm : LimP m := ⟨⟨o1, o2⟩, o3, o4⟩
  unfold spec_BoxBound.f
  rw [h1, bnd_chk, br_not, br_pos hm, h2, bnd_chk, br_not, br_pos hp]
  refine loop_run (n := 6) (fun i => (bdS m l i, (i : Int), ())) rfl (fun i hi rec => ?_) (fun rec => by simp (disch := omega) only [lett_e, bnd_s, bnd_chk, br_not, br_t, br_f, br_T, br_F, not_true_eq_false, not_false_eq_true, chk_T, chk_F, chk_eq, eqI_dc, ltI_dc, leI_dc, eqN_dc, notB_dc, andB_dc, andB_t, eqB_dc, notB_t, notB_f, inR_dc, upR_dc, ln_e, app_e, tk_e, dp_e, upd_e, repl_e, natI_n, br_pos, br_neg, addI_n, fitN_T]) (by omega)
  have hqm : ∀ x ∈ ofC l (i : Int), 1 ≤ x.2.1 ∧ x.2.1 ≤ 60 := fun x hx => (hp.2.1 x (ofC_mem hx).1).2.1
  have hql := ofC_len l (i : Int)
  have hse := share_eq hm (ofC l (i : Int)) (by omega) hqm
  have hsb := share_of hm hp (i : Int)
  have hbb := bdS_b hm hp i
  dsimp only
  rw [leI_dc, br_pos (by omega)]
  refine loop_run (n := l.length) (fun j => (wS (ofC (l.take j) (i : Int)), ((ofC (l.take j) (i : Int)).length : Int), (j : Int), ())) (by simp [wS, ofC]) (fun j hj rec2 => ?_) (fun rec2 => ?_) (by omega)
  · have hxm : rP l j ∈ l := by unfold rP; rw [rd_lt hj]; exact List.getElem_mem hj
    have hx := (hp.2.1 _ hxm).2.1
    have hlen : (ofC (l.take j) (i : Int)).length ≤ j := Nat.le_trans (ofC_len _ _) (by rw [List.length_take]; omega)
    have hb := wS_bound (ofC (l.take j) (i : Int)) (fun x hx => by have := (hp.2.1 x (List.mem_of_mem_take (ofC_mem hx).1)).2.1; omega)
    have hs : ofC (l.take (j + 1)) (i : Int) = ofC (l.take j) (i : Int) ++ ofC [rP l j] (i : Int) := by
      rw [take_s (d := (0, 0, 0, ())) hj]; simp [ofC]
    unfold rP at hx hs
    by_cases c : (rdP (0, 0, 0, ()) l j).2.2.1 = (i : Int)
    · have h1 : ofC [rdP (0, 0, 0, ()) l j] (i : Int) = [rdP (0, 0, 0, ()) l j] := by unfold ofC; rw [List.filter_cons, if_pos (beq_iff_eq.2 c), List.filter_nil]
      rw [hs, h1, wS_app, wS_cons, wS_nil, Int.add_zero, List.length_append]
      simp (disch := omega) only [lett_e, bnd_s, bnd_chk, br_not, br_t, br_f, br_T, br_F, not_true_eq_false, not_false_eq_true, chk_T, chk_F, chk_eq, eqI_dc, ltI_dc, leI_dc, eqN_dc, notB_dc, andB_dc, andB_t, eqB_dc, notB_t, notB_f, inR_dc, upR_dc, ln_e, app_e, tk_e, dp_e, upd_e, repl_e, natI_n, br_pos, br_neg, addI_nat, addI_nn, subI_n1, subI_nn, fitN_T, List.length_set, List.length_append, List.length_cons, List.length_nil, addI_id]
      rfl
    · have h1 : ofC [rdP (0, 0, 0, ()) l j] (i : Int) = [] := by unfold ofC; rw [List.filter_cons, if_neg (fun h => c (beq_iff_eq.1 h)), List.filter_nil]
      rw [hs, h1, List.append_nil]
      simp (disch := omega) only [lett_e, bnd_s, bnd_chk, br_not, br_t, br_f, br_T, br_F, not_true_eq_false, not_false_eq_true, chk_T, chk_F, chk_eq, eqI_dc, ltI_dc, leI_dc, eqN_dc, notB_dc, andB_dc, andB_t, eqB_dc, notB_t, notB_f, inR_dc, upR_dc, ln_e, app_e, tk_e, dp_e, upd_e, repl_e, natI_n, br_pos, br_neg, addI_nat, addI_nn, subI_n1, subI_nn, fitN_T, List.length_set, List.length_append, List.length_cons, List.length_nil]
  · rw [List.take_length]
    have hadd : addI .i64 (bdS m l i) (share m.1 m.2.1 (ofC l (i : Int))) = bdS m l (i + 1) := by rw [addI_id (by omega), bdS]
    simp (disch := omega) only [lett_e, bnd_s, bnd_chk, br_not, br_t, br_f, br_T, br_F, not_true_eq_false, not_false_eq_true, chk_T, chk_F, chk_eq, eqI_dc, ltI_dc, leI_dc, eqN_dc, notB_dc, andB_dc, andB_t, eqB_dc, notB_t, notB_f, inR_dc, upR_dc, ln_e, app_e, tk_e, dp_e, upd_e, repl_e, natI_n, br_pos, br_neg, addI_nat, addI_nn, subI_n1, subI_nn, fitN_T, List.length_set, List.length_append, List.length_cons, List.length_nil, hse, hadd]
/-- no packing has fewer groups than what is asked for -/
theorem bound_low {m : LimT} {l : List Pc} (hm : LimP m) (hp : PiecesP l) : ∀ c : Nat, c ≤ 6 → (below l c ≠ [] → 1 ≤ bdS m l c) ∧ ∀ bs, PkC m.1 m.2.1 (below l c) bs → bdS m l c ≤ (bs.length : Int)
  | 0, _ => ⟨fun h => absurd (below_zero hp) h, fun bs _ => by simp [bdS]⟩
  | c + 1, hc => by
    obtain ⟨i1, i2⟩ := bound_low hm hp c (by omega)
    obtain ⟨s0, s1, s2, s3⟩ := share_of hm hp (c : Int)
    have hb := bdS_b hm hp c
    have hnx := below_next l (fun x hx => (hp.2.1 x hx).2.2.1) c
    have hof := below_ofC l c
    rw [bdS]
    refine ⟨fun hne => ?_, fun bs hbs => ?_⟩
    · by_cases h1 : below l c = []
      · have : ofC l (c : Int) ≠ [] := by
          intro h2
          apply hne
          rw [← hof] at h2
          refine List.eq_nil_iff_forall_not_mem.2 (fun x hx => ?_)
          by_cases e : x.2.2.1 = (c : Int)
          · have : x ∈ ofC (below l (c + 1)) (c : Int) := List.mem_filter.2 ⟨hx, by simpa using e⟩
            rw [h2] at this; cases this
          · have : x ∈ below l c := by rw [hnx]; exact List.mem_filter.2 ⟨hx, by simpa using e⟩
            rw [h1] at this; cases this
        have := s2 this
        omega
      · have := i1 h1; omega
    · obtain ⟨d1, d2, g1, g2, g3, g4, g5⟩ := split_class (c : Int) bs (fun b hb => (hbs.2 b hb).2)
      have j1 := i2 d1 ⟨by rw [g2, hnx]; exact hbs.1.filter _, fun b hb => hbs.2 b (g4 b hb)⟩
      have j2 := s3 d2 ⟨by rw [g3, ← hof]; exact hbs.1.filter _, fun b hb => (hbs.2 b (g5 b hb).1).1⟩
      omega
end Go.Proofs.Ytcfbjloblbhdhaa.Eng
