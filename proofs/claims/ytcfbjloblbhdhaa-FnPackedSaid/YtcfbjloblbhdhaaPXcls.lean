/- Pieces of one class, and the least number of boxes: the program's. No condition. -/
import Derived.Test.YtcfbjloblbhdhaaPXfew
import Derived.Test.YtcfbjloblbhdhaaPLpack
import Derived.Test.YtcfbjloblbhdhaaDFnExactRepack
import Derived.Test.YtcfbjloblbhdhaaDFnPacked
namespace Go.Proofs.Ytcfbjloblbhdhaa.Eng
set_option linter.unusedVariables false
set_option linter.unusedSimpArgs false
def notC (c : Int) (p : Pc) : Prop := p.2.2.1 ≠ c
noncomputable def clsM (l : List Pc) (c : Int) : List Pc := keep (notC c) l
theorem impl_ofClass_f {k : Nat} (hk : K0 ≤ k) (l : List Pc) (c : Int) (hl : l.length ≤ 1048576) : impl_ofClass.f k l c = some (clsM l c, ()) := by
  unfold impl_ofClass.f
  rw [Clone_Pc_f k hl, bnd_s]
  dsimp only
  refine del_in (d := (0, 0, 0, ())) hk l hl (notC c) (fun l => some (l, ())) (F2 := ?F2) ?hF1 ?hE1 ?hF2 ?hE2
  case hF1 =>
    intro i rec hi
    simp (disch := omega) only [lett_e, bnd_s, bnd_chk, br_not, br_t, br_f, br_T, br_F, not_true_eq_false, not_false_eq_true, chk_T, chk_F, chk_eq, eqI_dc, ltI_dc, leI_dc, eqN_dc, notB_dc, andB_dc, andB_t, eqB_dc, notB_t, notB_f, inR_dc, upR_dc, ln_e, app_e, tk_e, dp_e, upd_e, repl_e, natI_n, br_pos, br_neg, addI_nat, addI_nn, subI_n1, subI_nn, fitN_T, List.length_set, List.length_append, List.length_cons, List.length_nil]
    unfold notC
    rfl
  case hE1 => intro rec; simp (disch := omega) only [lett_e, bnd_s, bnd_chk, br_not, br_t, br_f, br_T, br_F, not_true_eq_false, not_false_eq_true, chk_T, chk_F, chk_eq, eqI_dc, ltI_dc, leI_dc, eqN_dc, notB_dc, andB_dc, andB_t, eqB_dc, notB_t, notB_f, inR_dc, upR_dc, ln_e, app_e, tk_e, dp_e, upd_e, repl_e, natI_n, br_pos, br_neg, addI_nat, addI_nn, subI_n1, subI_nn, fitN_T, List.length_set, List.length_append, List.length_cons, List.length_nil]
  case hF2 =>
    intro c' i j rec h1 h2 h3
    unfold notC
    simp (disch := omega) only [lett_e, bnd_s, bnd_chk, br_not, br_t, br_f, br_T, br_F, not_true_eq_false, not_false_eq_true, chk_T, chk_F, chk_eq, eqI_dc, ltI_dc, leI_dc, eqN_dc, notB_dc, andB_dc, andB_t, eqB_dc, notB_t, notB_f, inR_dc, upR_dc, ln_e, app_e, tk_e, dp_e, upd_e, repl_e, natI_n, br_pos, br_neg, addI_nat, addI_nn, subI_n1, subI_nn, fitN_T, List.length_set, List.length_append, List.length_cons, List.length_nil]
    by_cases h : (rdP (0, 0, 0, ()) c' j).2.2.1 = c
    · simp (disch := omega) only [lett_e, bnd_s, bnd_chk, br_not, br_t, br_f, br_T, br_F, not_true_eq_false, not_false_eq_true, chk_T, chk_F, chk_eq, eqI_dc, ltI_dc, leI_dc, eqN_dc, notB_dc, andB_dc, andB_t, eqB_dc, notB_t, notB_f, inR_dc, upR_dc, ln_e, app_e, tk_e, dp_e, upd_e, repl_e, natI_n, br_pos, br_neg, addI_nat, addI_nn, subI_n1, subI_nn, fitN_T, List.length_set, List.length_append, List.length_cons, List.length_nil, pc_eta]
    · simp (disch := omega) only [lett_e, bnd_s, bnd_chk, br_not, br_t, br_f, br_T, br_F, not_true_eq_false, not_false_eq_true, chk_T, chk_F, chk_eq, eqI_dc, ltI_dc, leI_dc, eqN_dc, notB_dc, andB_dc, andB_t, eqB_dc, notB_t, notB_f, inR_dc, upR_dc, ln_e, app_e, tk_e, dp_e, upd_e, repl_e, natI_n, br_pos, br_neg, addI_nat, addI_nn, subI_n1, subI_nn, fitN_T, List.length_set, List.length_append, List.length_cons, List.length_nil, pc_eta]
  case hE2 =>
    intro c' i rec h1 h2
    have hl : (c'.take i ++ List.replicate (c'.drop i).length ((0, 0, 0, ()) : Pc)).take i = c'.take i := by
      have : (c'.take i).length = i := by simp; omega
      rw [List.take_append_of_le_length (by omega), List.take_take, Nat.min_self]
    have hn : (c'.take i ++ List.replicate (c'.drop i).length ((0, 0, 0, ()) : Pc)).length = c'.length := by simp; omega
    simp (disch := omega) only [lett_e, bnd_s, bnd_chk, br_not, br_t, br_f, br_T, br_F, not_true_eq_false, not_false_eq_true, chk_T, chk_F, chk_eq, eqI_dc, ltI_dc, leI_dc, eqN_dc, notB_dc, andB_dc, andB_t, eqB_dc, notB_t, notB_f, inR_dc, upR_dc, ln_e, app_e, tk_e, dp_e, upd_e, repl_e, natI_n, br_pos, br_neg, addI_n, fitN_T, hl, hn]
    rw [br_pos ⟨by omega, by simp; omega⟩]
def ofC (l : List Pc) (c : Int) : List Pc := l.filter fun x => x.2.2.1 == c
theorem clsM_ofC (l : List Pc) (c : Int) : clsM l c = ofC l c := by
  unfold clsM keep ofC notC
  refine List.filter_congr (fun x _ => ?_)
  by_cases h : x.2.2.1 = c
  · rw [dc_T (by simpa using h)]; simp [h]
  · rw [dc_F (by simpa using h)]; simp [h]
def oneC (b : List Pc) : Prop := ∃ c, ∀ x ∈ b, x.2.2.1 = c
/-- Groups that hold just these pieces, each within the limits and of one class. -/
def PkC (W C : Int) (L : List Pc) (bs : List (List Pc)) : Prop := bs.flatten.Perm L ∧ ∀ b ∈ bs, fit W C b ∧ oneC b
def OptC (W C : Int) (L : List Pc) (v : Nat) : Prop := (∃ bs, PkC W C L bs ∧ bs.length = v) ∧ ∀ bs, PkC W C L bs → v ≤ bs.length
theorem OptC_one {W C : Int} {L : List Pc} {u v : Nat} (hu : OptC W C L u) (hv : OptC W C L v) : u = v := by
  obtain ⟨⟨b1, h1, rfl⟩, k1⟩ := hu
  obtain ⟨⟨b2, h2, rfl⟩, k2⟩ := hv
  have := k1 b2 h2
  have := k2 b1 h1
  omega
theorem split_class (c : Int) : ∀ bs : List (List Pc), (∀ b ∈ bs, oneC b) → ∃ b1 b2 : List (List Pc), b1.length + b2.length = bs.length ∧ b1.flatten = bs.flatten.filter (fun x => x.2.2.1 != c) ∧ b2.flatten = bs.flatten.filter (fun x => x.2.2.1 == c) ∧ (∀ b ∈ b1, b ∈ bs) ∧ (∀ b ∈ b2, b ∈ bs ∧ ∀ x ∈ b, x.2.2.1 = c)
  | [], _ => ⟨[], [], rfl, rfl, rfl, fun b h => h, fun b h => absurd h (by simp)⟩
  | b :: bs, h => by
    obtain ⟨b1, b2, h1, h2, h3, h4, h5⟩ := split_class c bs (fun x hx => h x (List.mem_cons_of_mem _ hx))
    obtain ⟨e, he⟩ := h b List.mem_cons_self
    simp only [List.flatten_cons, List.filter_append]
    by_cases hc : e = c
    · have e1 : b.filter (fun x => x.2.2.1 == c) = b := List.filter_eq_self.2 (fun x hx => by rw [he x hx, hc]; simp)
      have e2 : b.filter (fun x => x.2.2.1 != c) = [] := List.filter_eq_nil_iff.2 (fun x hx => by rw [he x hx, hc]; simp)
      refine ⟨b1, b :: b2, by simp only [List.length_cons]; omega, by rw [e2, h2]; rfl, by rw [List.flatten_cons, e1, h3], fun x hx => List.mem_cons_of_mem _ (h4 x hx), fun x hx => ?_⟩
      rcases List.mem_cons.1 hx with rfl | hx
      · exact ⟨List.mem_cons_self, fun y hy => (he y hy).trans hc⟩
      · exact ⟨List.mem_cons_of_mem _ (h5 x hx).1, (h5 x hx).2⟩
    · have e1 : b.filter (fun x => x.2.2.1 == c) = [] := List.filter_eq_nil_iff.2 (fun x hx => by rw [he x hx]; simpa using hc)
      have e2 : b.filter (fun x => x.2.2.1 != c) = b := List.filter_eq_self.2 (fun x hx => by rw [he x hx]; simpa using hc)
      refine ⟨b :: b1, b2, by simp only [List.length_cons]; omega, by rw [List.flatten_cons, e2, h2], by rw [e1, h3]; rfl, fun x hx => ?_, fun x hx => ⟨List.mem_cons_of_mem _ (h5 x hx).1, (h5 x hx).2⟩⟩
      rcases List.mem_cons.1 hx with rfl | hx
      · exact List.mem_cons_self
      · exact List.mem_cons_of_mem _ (h4 x hx)
/-- A class more. -/
theorem OptC_add {W C : Int} (c : Int) (L A : List Pc) (u v : Nat) (hA : A = L.filter (fun x => x.2.2.1 != c)) (hu : OptC W C A u) (hv : Opt W C (ofC L c) v) : OptC W C L (u + v) := by
  have hperm : (A ++ ofC L c).Perm L := by
    rw [hA]
    unfold ofC
    refine List.Perm.trans List.perm_append_comm ?_
    have := List.filter_append_perm (fun x : Pc => x.2.2.1 == c) L
    have e : (fun x : Pc => x.2.2.1 != c) = (fun x => !(x.2.2.1 == c)) := by funext x; rfl
    rw [e]
    exact this
  obtain ⟨⟨b1, h1, rfl⟩, k1⟩ := hu
  obtain ⟨⟨b2, h2, rfl⟩, k2⟩ := hv
  refine ⟨⟨b1 ++ b2, ⟨?_, fun b hb => ?_⟩, by simp⟩, fun bs hbs => ?_⟩
  · rw [List.flatten_append]
    exact (h1.1.append h2.1).trans hperm
  · rcases List.mem_append.1 hb with hb | hb
    · exact h1.2 b hb
    · refine ⟨h2.2 b hb, c, fun x hx => ?_⟩
      have hm : x ∈ ofC L c := h2.1.mem_iff.1 (List.mem_flatten.2 ⟨b, hb, hx⟩)
      unfold ofC at hm
      simpa using (List.mem_filter.1 hm).2
  · obtain ⟨d1, d2, g1, g2, g3, g4, g5⟩ := split_class c bs (fun b hb => (hbs.2 b hb).2)
    have i1 := k1 d1 ⟨by rw [g2, hA]; exact hbs.1.filter _, fun b hb => hbs.2 b (g4 b hb)⟩
    have i2 := k2 d2 ⟨by rw [g3]; exact hbs.1.filter _, fun b hb => (hbs.2 b (g5 b hb).1).1⟩
    omega
def below (L : List Pc) (c : Nat) : List Pc := L.filter (fun x => decide (x.2.2.1 < (c : Int)))
theorem below_ofC (L : List Pc) (c : Nat) : ofC (below L (c + 1)) (c : Int) = ofC L (c : Int) := by
  unfold ofC below
  rw [List.filter_filter]
  refine List.filter_congr (fun x _ => ?_)
  by_cases h : x.2.2.1 = (c : Int)
  · simp [h]; omega
  · simp [h]
theorem below_next (L : List Pc) (hL : ∀ x ∈ L, 0 ≤ x.2.2.1) (c : Nat) : below L c = (below L (c + 1)).filter (fun x => x.2.2.1 != (c : Int)) := by
  unfold below
  rw [List.filter_filter]
  refine List.filter_congr (fun x _ => ?_)
  by_cases h : x.2.2.1 < (c : Int)
  · have h1 : x.2.2.1 < ((c + 1 : Nat) : Int) := by omega
    have h2 : x.2.2.1 ≠ (c : Int) := by omega
    simp [h, h1, h2]
    omega
  · by_cases h2 : x.2.2.1 = (c : Int)
    · simp [h2]
    · have h1 : ¬ x.2.2.1 < ((c + 1 : Nat) : Int) := by omega
      simp [h, h1]
      omega
theorem below_six {l : List Pc} (h : PiecesP l) : below l 6 = l := by
  unfold below
  refine List.filter_eq_self.2 (fun x hx => ?_)
  have := (h.2.1 x hx).2.2.2
  simp; omega
theorem below_zero {l : List Pc} (h : PiecesP l) : below l 0 = [] := by
  unfold below
  refine List.filter_eq_nil_iff.2 (fun x hx => ?_)
  have := (h.2.1 x hx).2.2.1
  simp; omega
theorem OptC_nil (W C : Int) : OptC W C [] 0 := ⟨⟨[], ⟨List.Perm.refl _, fun b hb => absurd hb (by simp)⟩, rfl⟩, fun _ _ => Nat.zero_le _⟩

noncomputable def fewOk (m : LimT) (l : List Pc) : Prop := LimP m ∧ PiecesP l ∧ l.length ≤ 8
theorem impl_FewestBoxes_f {k : Nat} (hk : K0 ≤ k) (m : LimT) (l : List Pc) (hl : l.length ≤ 1048576) : ∃ r : Int, impl_FewestBoxes.f k m l = some (r, ()) ∧ (fewOk m l → ∃ v : Nat, OptC m.1 m.2.1 l v ∧ r = (v : Int)) ∧ (¬ fewOk m l → r = -1) := by
  have h1 : impl_LimitsOk.f k (m.1, m.2.1, ()) = chkP (LimP m) := impl_LimitsOk_m k m
  have h2 := impl_PiecesOk_f hk l hl
  unfold impl_FewestBoxes.f
  rw [h1, bnd_chk, br_not]
  by_cases hm : LimP m
  case neg => exact ⟨-1, by rw [br_neg hm], fun h => absurd h.1 hm, fun _ => rfl⟩
  rw [br_pos hm, h2, bnd_chk, br_not]
  by_cases hp : PiecesP l
  case neg => exact ⟨-1, by rw [br_neg hp], fun h => absurd h.2.1 hp, fun _ => rfl⟩
  rw [br_pos hp, ltI_dc, ln_e]
  by_cases h8 : l.length ≤ 8
  case neg => exact ⟨-1, by rw [br_pos (by omega)], fun h => absurd h.2.2 h8, fun _ => rfl⟩
  rw [br_neg (by omega)]
  have hk' := hk
  unfold K0 at hk'
  refine loop_msr (P := fun x => ∃ r : Int, x = some (r, ()) ∧ (fewOk m l → ∃ v : Nat, OptC m.1 m.2.1 l v ∧ r = (v : Int)) ∧ (¬ fewOk m l → r = -1)) (fun f s => ∃ (c u : Nat), s = ((u : Int), (c : Int), ()) ∧ c + f = 6 ∧ u ≤ 8 * c ∧ OptC m.1 m.2.1 (below l c) u) ?_ (f := 6) ⟨0, 0, rfl, rfl, by omega, by rw [below_zero hp]; exact OptC_nil _ _⟩ (by omega)
  rintro f s rec ⟨c, u, rfl, hc, hu, ho⟩
  cases f with
  | zero =>
    left
    obtain rfl : c = 6 := by omega
    rw [below_six hp] at ho
    exact ⟨(u : Int), by simp (disch := omega) only [lett_e, bnd_s, bnd_chk, br_not, br_t, br_f, br_T, br_F, not_true_eq_false, not_false_eq_true, chk_T, chk_F, chk_eq, eqI_dc, ltI_dc, leI_dc, eqN_dc, notB_dc, andB_dc, andB_t, eqB_dc, notB_t, notB_f, inR_dc, upR_dc, ln_e, app_e, tk_e, dp_e, upd_e, repl_e, natI_n, br_pos, br_neg, addI_n, fitN_T], fun _ => ⟨u, ho, rfl⟩, fun h => absurd ⟨hm, hp, h8⟩ h⟩
  | succ f =>
    right
    have hlen : (ofC l (c : Int)).length ≤ 8 := Nat.le_trans (List.length_filter_le _ _) h8
    obtain ⟨v, hv, hv8, ev⟩ := fewest_f hk m (ofC l (c : Int)) hlen (fun x hx => by have := hp.2.1 x (List.mem_filter.1 hx).1; exact ⟨by have := this.2.1; omega, this.2.1.2⟩) hm.1 hm.2
    have ev' : impl_fewest.f k (m.1, m.2.1, ()) (clsM l (c : Int)) = some ((v : Int), ()) := by rw [clsM_ofC]; exact ev
    have hcl := impl_ofClass_f hk l (c : Int) (by omega)
    have hadd : addI .i64 (u : Int) (v : Int) = ((u + v : Nat) : Int) := addI_nn (by omega)
    exact ⟨f, _, by omega, ⟨c + 1, u + v, rfl, by omega, by omega, OptC_add (c : Int) (below l (c + 1)) (below l c) u v (below_next l (fun x hx => (hp.2.1 x hx).2.2.1) c) ho (by rw [below_ofC]; exact hv)⟩, by simp (disch := omega) only [lett_e, bnd_s, bnd_chk, br_not, br_t, br_f, br_T, br_F, not_true_eq_false, not_false_eq_true, chk_T, chk_F, chk_eq, eqI_dc, ltI_dc, leI_dc, eqN_dc, notB_dc, andB_dc, andB_t, eqB_dc, notB_t, notB_f, inR_dc, upR_dc, ln_e, app_e, tk_e, dp_e, upd_e, repl_e, natI_n, br_pos, br_neg, addI_nat, addI_nn, subI_n1, subI_nn, fitN_T, List.length_set, List.length_append, List.length_cons, List.length_nil, hcl, ev', hadd]⟩
end Go.Proofs.Ytcfbjloblbhdhaa.Eng
