/- Boxes that hold the pieces in groups are right: the program's check. No condition. -/
import Derived.Test.YtcfbjloblbhdhaaPXok
import Derived.Test.YtcfbjloblbhdhaaDFnExactRepack
import Derived.Test.YtcfbjloblbhdhaaDFnPacked
namespace Go.Proofs.Ytcfbjloblbhdhaa.Eng
set_option linter.unusedVariables false
set_option linter.unusedSimpArgs false
theorem idx_int {k : Nat} (hk : K0 ≤ k) (l : List (Int × Unit)) (b : Int) (hl : l.length ≤ 1048576) : (∃ i : Nat, slices_Index_int_int.f k l b = some ((i : Int), ()) ∧ (b, ()) ∈ l) ∨ (slices_Index_int_int.f k l b = some (-1, ()) ∧ (b, ()) ∉ l) := by
  unfold K0 at hk
  unfold slices_Index_int_int.f
  refine find_in (P := fun r => (∃ i : Nat, r = some ((i : Int), ()) ∧ (b, ()) ∈ l) ∨ (r = some (-1, ()) ∧ (b, ()) ∉ l)) (n := l.length) (J := fun i => some ((i : Int), ())) (E := some (-1, ())) (fun i => b = (rdP (0, ()) l i).1) ?_ ?_ (by omega) ?_ ?_
  · intro i rec hi; simp (disch := omega) only [lett_e, bnd_s, bnd_chk, br_not, br_t, br_f, br_T, br_F, not_true_eq_false, not_false_eq_true, chk_T, chk_F, chk_eq, eqI_dc, ltI_dc, leI_dc, eqN_dc, notB_dc, andB_dc, andB_t, eqB_dc, notB_t, notB_f, inR_dc, upR_dc, ln_e, app_e, tk_e, dp_e, upd_e, repl_e, natI_n, br_pos, br_neg, addI_nat, addI_nn, subI_n1, subI_nn, fitN_T, List.length_set, List.length_append, List.length_cons, List.length_nil]
  · intro rec; simp (disch := omega) only [lett_e, bnd_s, bnd_chk, br_not, br_t, br_f, br_T, br_F, not_true_eq_false, not_false_eq_true, chk_T, chk_F, chk_eq, eqI_dc, ltI_dc, leI_dc, eqN_dc, notB_dc, andB_dc, andB_t, eqB_dc, notB_t, notB_f, inR_dc, upR_dc, ln_e, app_e, tk_e, dp_e, upd_e, repl_e, natI_n, br_pos, br_neg, addI_nat, addI_nn, subI_n1, subI_nn, fitN_T, List.length_set, List.length_append, List.length_cons, List.length_nil]
  · intro i hi _ h
    exact .inl ⟨i, rfl, by rw [h, rd_lt hi]; exact List.getElem_mem hi⟩
  · intro h
    refine .inr ⟨rfl, fun z => ?_⟩
    obtain ⟨j, hj, e⟩ := List.getElem_of_mem z
    exact h j hj (by rw [rd_lt hj, e])
theorem contains_int {k : Nat} (hk : K0 ≤ k) (l : List (Int × Unit)) (b : Int) (hl : l.length ≤ 1048576) : slices_Contains_int_int.f k l b = chkP ((b, ()) ∈ l) := by
  unfold slices_Contains_int_int.f
  rcases idx_int hk l b hl with ⟨i, e, h⟩ | ⟨e, h⟩
  · rw [e, bnd_s, leI_dc, chk_pos h]; dsimp only; rw [dc_T (by omega)]; unfold chkP; rw [dc_T trivial]
  · rw [e, bnd_s, leI_dc, chk_neg h]; dsimp only; rw [dc_F (by omega)]; unfold chkP; rw [dc_F (fun z => z)]
abbrev ids (l : List Pc) : List (Int × Unit) := l.map fun p => (p.1, ())
theorem piece_uniq {l : List Pc} (hn : (l.map (·.1)).Nodup) {t : Nat} (ht : t < l.length) {p : Pc} (hp : p ∈ l) (h : (rP l t).1 = p.1) : rP l t = p := by
  obtain ⟨s, hs, rfl⟩ := List.getElem_of_mem hp
  unfold rP at h ⊢
  rw [rd_lt ht] at h ⊢
  unfold List.Nodup at hn
  rw [List.pairwise_iff_getElem] at hn
  rcases Nat.lt_trichotomy t s with e | e | e
  · have := hn t s (by simpa using ht) (by simpa using hs) e
    simp only [List.getElem_map] at this
    exact absurd h this
  · subst e; rfl
  · have := hn s t (by simpa using hs) (by simpa using ht) e
    simp only [List.getElem_map] at this
    exact absurd h.symm this
set_option maxHeartbeats 1000000 in
theorem impl_BoxesOk_cs {k : Nat} (hk : K0 ≤ k) {m : LimT} {l : List Pc} (hm : LimP m) (hp : PiecesP l) (cs : List (List Pc)) (hfl : cs.flatten.Perm l) (hok : ∀ c ∈ cs, okBox m.1 m.2.1 c) : impl_BoxesOk.f k m l (cs.map boxOf) = chkP True := by
  have h1 : impl_LimitsOk.f k (m.1, m.2.1, ()) = chkP (LimP m) := impl_LimitsOk_m k m
  have hl40 := hp.1
  have h2 := impl_PiecesOk_f hk l (by omega)
  have hlen : cs.flatten.length = l.length := hfl.length_eq
  have hcl : cs.length ≤ 40 := by
    have : cs.length ≤ cs.flatten.length := by
      clear hfl hlen
      induction cs with
      | nil => simp
      | cons c cs ih =>
        have := ih (fun d hd => hok d (List.mem_cons_of_mem _ hd))
        have hc := (hok c List.mem_cons_self).1
        have := List.length_pos_iff.2 hc
        rw [List.flatten_cons, List.length_append, List.length_cons]
        omega
    omega
  have hnd : (ids cs.flatten).Nodup := by
    have h3 : (cs.flatten.map (·.1)).Nodup := (hfl.map (·.1)).nodup_iff.2 hp.2.2
    have : ids cs.flatten = (cs.flatten.map (·.1)).map fun b => (b, ()) := by rw [List.map_map]; rfl
    rw [this]
    exact h3.map _ (fun a b h e => h (by cases e; rfl))
  have hk' := hk
  unfold K0 at hk'
  unfold impl_BoxesOk.f
  rw [h1, bnd_chk, br_not, br_pos hm, h2, bnd_chk, br_not, br_pos hp]
  refine loop_run (n := cs.length) (fun i => (ids (cs.take i).flatten, (i : Int), ())) (by simp) (fun i hi rec => ?_) (fun rec => ?_) (by omega)
  · have hgb := getBox cs i hi
    have hmem : cs.getD i [] ∈ cs := by rw [List.getD_eq_getElem?_getD, List.getElem?_eq_getElem hi]; exact List.getElem_mem hi
    obtain ⟨hne, ⟨hw, hc⟩, f, hf⟩ := hok _ hmem
    have hfs : (cs.take (i + 1)).flatten = (cs.take i).flatten ++ cs.getD i [] := by
      rw [List.take_succ_eq_append_getElem hi, List.flatten_append, List.getD_eq_getElem?_getD, List.getElem?_eq_getElem hi]; simp
    have hsub : ∀ x ∈ cs.getD i [], x ∈ l := fun x hx => hfl.mem_iff.1 (List.mem_flatten.2 ⟨_, hmem, hx⟩)
    have hpre : (ids (cs.take (i + 1)).flatten).Nodup := by
      have : cs.flatten = (cs.take (i + 1)).flatten ++ (cs.drop (i + 1)).flatten := by rw [← List.flatten_append, List.take_append_drop]
      rw [this, ids, List.map_append] at hnd
      exact (List.nodup_append.1 hnd).1
    have hplen : (cs.take (i + 1)).flatten.length ≤ 40 := by
      have : cs.flatten = (cs.take (i + 1)).flatten ++ (cs.drop (i + 1)).flatten := by rw [← List.flatten_append, List.take_append_drop]
      have := congrArg List.length this
      rw [List.length_append] at this
      omega
    have hcls := box_class hne f hf
    rw [hfs] at hpre hplen ⊢
    rw [List.length_append] at hplen
    generalize hcd : cs.getD i [] = c at *
    generalize (cs.take i).flatten = A at *
    have hbw : (boxOf c).2.1 = wS c := rfl
    have hbb : (boxOf c).2.2.1 = ids c := rfl
    have hwb : ∀ x ∈ c, 1 ≤ x.2.1 ∧ x.2.1 ≤ 60 := fun x hx => (hp.2.1 x (hsub x hx)).2.1
    dsimp only
    rw [ltI_dc, ln_e, List.length_map, br_pos (by omega), inR_dc, br_pos (by omega), lett_e, natI_n, hgb]
    refine loop_run (n := c.length) (fun j => (ids A ++ ids (c.take j), wS (c.take j), (j : Int), ())) (by simp [wS]) (fun j hj rec2 => ?_) (fun rec2 => ?_) (by omega)
    · have hpm : rP c j ∈ c := by unfold rP; rw [rd_lt hj]; exact List.getElem_mem hj
      have hpl := hsub _ hpm
      have hx := hwb _ hpm
      have hb := wS_bound (c.take j) (fun x hx => by have := hwb x (List.mem_of_mem_take hx); omega)
      rw [List.length_take] at hb
      have hts : c.take (j + 1) = c.take j ++ [rP c j] := take_s (d := (0, 0, 0, ())) hj
      have hnot : ((rP c j).1, ()) ∉ ids A ++ ids (c.take j) := by
        have hsp : c = (c.take j ++ [rP c j]) ++ c.drop (j + 1) := by rw [← hts, List.take_append_drop]
        rw [hsp] at hpre
        simp only [ids, List.map_append, ← List.append_assoc] at hpre
        have := (List.nodup_append.1 (List.nodup_append.1 hpre).1).2.2
        intro z
        exact this _ z _ (by simp) rfl
      have hcon := contains_int hk (ids A ++ ids (c.take j)) (rP c j).1 (by simp; omega)
      rw [chk_neg hnot] at hcon
      have hfit := fit1 (((rP c j).1, ()) : Int × Unit) (l := ids A ++ ids (c.take j)) (by simp; omega)
      have hbag : rdP (0, ()) (boxOf c).2.2.1 j = ((rP c j).1, ()) := by
        rw [hbb]; unfold rP; rw [rd_lt (by simpa using hj), rd_lt hj]; simp
      have hbl : (boxOf c).2.2.1.length = c.length := by rw [hbb]; simp
      have hclp : (boxOf c).1 = (rP c j).2.2.1 := by rw [hcls]; exact (hf _ hpm).symm
      have hid : ids A ++ ids (c.take (j + 1)) = (ids A ++ ids (c.take j)) ++ [((rP c j).1, ())] := by rw [hts]; simp [ids]
      have hws : wS (c.take (j + 1)) = wS (c.take j) + (rP c j).2.1 := by rw [hts, wS_app, wS_cons, wS_nil, Int.add_zero]
      rw [hid, hws]
      dsimp only
      rw [ltI_dc, ln_e, hbl, br_pos (by omega), lett_e, inR_dc, br_pos (by omega), lett_e, natI_n, hbag]
      generalize hbx : boxOf c = bx at *
      generalize hq : rP c j = q at *
      refine find_in (P := fun r => r = rec2 ((ids A ++ ids (c.take j)) ++ [(q.1, ())], wS (c.take j) + q.2.1, ((j + 1 : Nat) : Int), ())) (n := l.length) (J := ?J) (E := chkP False) (fun t => (rdP (0, 0, 0, ()) l t).1 = q.1) ?hF ?hE (by omega) ?hP ?hQ
      case hF => intro t rec3 ht; simp (disch := omega) only [lett_e, bnd_s, bnd_chk, br_not, br_t, br_f, br_T, br_F, not_true_eq_false, not_false_eq_true, chk_T, chk_F, chk_eq, eqI_dc, ltI_dc, leI_dc, eqN_dc, notB_dc, andB_dc, andB_t, eqB_dc, notB_t, notB_f, inR_dc, upR_dc, ln_e, app_e, tk_e, dp_e, upd_e, repl_e, natI_n, br_pos, br_neg, addI_nat, addI_nn, subI_n1, subI_nn, fitN_T, List.length_set, List.length_append, List.length_cons, List.length_nil, hcon]; rfl
      case hE => intro rec3; simp (disch := omega) only [lett_e, bnd_s, bnd_chk, br_not, br_t, br_f, br_T, br_F, not_true_eq_false, not_false_eq_true, chk_T, chk_F, chk_eq, eqI_dc, ltI_dc, leI_dc, eqN_dc, notB_dc, andB_dc, andB_t, eqB_dc, notB_t, notB_f, inR_dc, upR_dc, ln_e, app_e, tk_e, dp_e, upd_e, repl_e, natI_n, br_pos, br_neg, addI_nat, addI_nn, subI_n1, subI_nn, fitN_T, List.length_set, List.length_append, List.length_cons, List.length_nil]
      case hP =>
        intro t ht _ he
        have hu : rdP (0, 0, 0, ()) l t = q := piece_uniq hp.2.2 ht hpl he
        (try dsimp only)
        rw [hu]
        simp (disch := omega) only [lett_e, bnd_s, bnd_chk, br_not, br_t, br_f, br_T, br_F, not_true_eq_false, not_false_eq_true, chk_T, chk_F, chk_eq, eqI_dc, ltI_dc, leI_dc, eqN_dc, notB_dc, andB_dc, andB_t, eqB_dc, notB_t, notB_f, inR_dc, upR_dc, ln_e, app_e, tk_e, dp_e, upd_e, repl_e, natI_n, br_pos, br_neg, addI_nat, addI_nn, subI_n1, subI_nn, fitN_T, List.length_set, List.length_append, List.length_cons, List.length_nil, hfit, addI_id]
      case hQ =>
        intro hno
        obtain ⟨t, ht, e⟩ := List.getElem_of_mem hpl
        exact absurd (by rw [rd_lt ht, e]) (hno t ht)
    · rw [List.take_length]
      have hbl : (boxOf c).2.2.1.length = c.length := by rw [hbb]; simp
      have hcp := List.length_pos_iff.2 hne
      have hid : ids (A ++ c) = ids A ++ ids c := by simp [ids]
      rw [hid]
      simp (disch := omega) only [lett_e, bnd_s, bnd_chk, br_not, br_t, br_f, br_T, br_F, not_true_eq_false, not_false_eq_true, chk_T, chk_F, chk_eq, eqI_dc, ltI_dc, leI_dc, eqN_dc, notB_dc, andB_dc, andB_t, eqB_dc, notB_t, notB_f, inR_dc, upR_dc, ln_e, app_e, tk_e, dp_e, upd_e, repl_e, natI_n, br_pos, br_neg, addI_nat, addI_nn, subI_n1, subI_nn, fitN_T, List.length_set, List.length_append, List.length_cons, List.length_nil, hbl, hbw]
  · rw [List.take_length]
    simp (disch := omega) only [lett_e, bnd_s, bnd_chk, br_not, br_t, br_f, br_T, br_F, not_true_eq_false, not_false_eq_true, chk_T, chk_F, chk_eq, eqI_dc, ltI_dc, leI_dc, eqN_dc, notB_dc, andB_dc, andB_t, eqB_dc, notB_t, notB_f, inR_dc, upR_dc, ln_e, app_e, tk_e, dp_e, upd_e, repl_e, natI_n, br_pos, br_neg, addI_nat, addI_nn, subI_n1, subI_nn, fitN_T, List.length_set, List.length_append, List.length_cons, List.length_nil, List.length_map, hlen]
end Go.Proofs.Ytcfbjloblbhdhaa.Eng
