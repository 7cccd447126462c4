/- The reference's search over all ways to put pieces into boxes: what it computes is the least number. No condition. -/
import Derived.Test.YtcfbjloblbhdhaaPXcls
import Derived.Test.YtcfbjloblbhdhaaDFnExactRepack
namespace Go.Proofs.Ytcfbjloblbhdhaa.Eng
set_option linter.unusedVariables false
set_option linter.unusedSimpArgs false
def fitC (W C : Int) (b : List Pc) : Prop := fit W C b ∧ oneC b
theorem oneC_perm {b c : List Pc} (h : b.Perm c) (ho : oneC b) : oneC c := by
  obtain ⟨e, he⟩ := ho
  exact ⟨e, fun x hx => he x (h.mem_iff.2 hx)⟩
theorem fitC_perm {W C : Int} {b c : List Pc} (h : b.Perm c) (hf : fitC W C b) : fitC W C c := ⟨fit_perm h hf.1, oneC_perm h hf.2⟩
/-- The box of some pieces. -/
def boxOf (c : List Pc) : Bx := (((c.getLast?).map (·.2.2.1)).getD 0, wS c, c.map (fun p => (p.1, ())), ())
theorem boxOf_snoc (c : List Pc) (p : Pc) : boxOf (c ++ [p]) = (p.2.2.1, wS c + p.2.1, c.map (fun p => (p.1, ())) ++ [(p.1, ())], ()) := by
  simp [boxOf, wS]
theorem with_eq (k : Nat) (c : List Pc) (p : Pc) (hl : c.length ≤ 1048576) (h0 : 0 ≤ wS c) (h1 : wS c ≤ 1099511627776) (hp : 0 ≤ p.2.1 ∧ p.2.1 ≤ 60) : spec_l07With.f k (boxOf c) p = some (boxOf (c ++ [p]), ()) := by
  have e1 : (boxOf c).2.1 = wS c := rfl
  have e2 : (boxOf c).2.2.1 = c.map (fun p => (p.1, ())) := rfl
  have f0 := fit0 (l := c.map fun p : Pc => (p.1, ())) (by simpa using hl)
  have f1 := fit1 ((p.1, ()) : Int × Unit) (l := c.map fun p : Pc => (p.1, ())) (by simpa using hl)
  rw [boxOf_snoc]
  unfold spec_l07With.f
  simp (disch := omega) only [lett_e, bnd_s, bnd_chk, br_not, br_t, br_f, br_T, br_F, not_true_eq_false, not_false_eq_true, chk_T, chk_F, chk_eq, eqI_dc, ltI_dc, leI_dc, eqN_dc, notB_dc, andB_dc, andB_t, eqB_dc, notB_t, notB_f, inR_dc, upR_dc, ln_e, app_e, tk_e, dp_e, upd_e, repl_e, natI_n, br_pos, br_neg, addI_n, fitN_T, e1, e2, f0, f1, List.nil_append, addI_id, both_same]
def takes (W C : Int) (c : List Pc) (p : Pc) : Prop := (boxOf c).1 = p.2.2.1 ∧ (c.length : Int) < C ∧ wS c + p.2.1 ≤ W
theorem takes_eq (k : Nat) (m : LimT) (c : List Pc) (p : Pc) (h0 : 0 ≤ wS c) (h1 : wS c ≤ 1099511627776) (hp : 0 ≤ p.2.1 ∧ p.2.1 ≤ 60) : spec_l07Takes.f k m (boxOf c) p = chkP (takes m.1 m.2.1 c p) := by
  have e1 : (boxOf c).2.1 = wS c := rfl
  have e2 : ((boxOf c).2.2.1).length = c.length := by simp [boxOf]
  unfold spec_l07Takes.f takes
  simp (disch := omega) only [lett_e, bnd_s, bnd_chk, br_not, br_t, br_f, br_T, br_F, not_true_eq_false, not_false_eq_true, chk_T, chk_F, chk_eq, eqI_dc, ltI_dc, leI_dc, eqN_dc, notB_dc, andB_dc, andB_t, eqB_dc, notB_t, notB_f, inR_dc, upR_dc, ln_e, app_e, tk_e, dp_e, upd_e, repl_e, natI_n, br_pos, br_neg, addI_n, fitN_T, e1, e2, addI_id]
  by_cases c1 : (boxOf c).1 = p.2.2.1
  · by_cases c2 : (c.length : Int) < m.2.1
    · rw [br_pos c1, br_pos c2]; exact chk_congr ⟨fun z => ⟨c1, c2, z⟩, fun z => z.2.2⟩
    · rw [br_pos c1, br_neg c2]; exact chk_congr ⟨fun z => z.elim, fun z => c2 z.2.1⟩
  · rw [br_neg c1]; exact chk_congr ⟨fun z => z.elim, fun z => c1 z.1⟩
section
variable (W C : Int) (l : List Pc)
/-- No way to go on has fewer boxes. -/
def Low (cs : List (List Pc)) (i v : Nat) : Prop := ∀ (xs : List (List Pc × List Pc)) (es : List (List Pc)), xs.map (·.1) = cs → (∀ x ∈ xs, fitC W C (x.1 ++ x.2)) → (∀ e ∈ es, fitC W C e) → ((xs.map (·.2)).flatten ++ es.flatten).Perm (l.drop i) → v ≤ cs.length + es.length
/-- Some way to go on has just so many. -/
def Att (cs : List (List Pc)) (i v : Nat) : Prop := ∃ bs : List (List Pc), (∀ b ∈ bs, fitC W C b) ∧ bs.flatten.Perm (cs.flatten ++ l.drop i) ∧ bs.length = v
end
theorem drop_cons' (l : List Pc) (i : Nat) (hi : i < l.length) : l.drop i = rP l i :: l.drop (i + 1) := by
  unfold rP; rw [List.drop_eq_getElem_cons hi, rd_lt hi]
theorem set_midL (l1 : List (List Pc)) (c : List Pc) (l2 : List (List Pc)) (c' : List Pc) : (l1 ++ c :: l2).set l1.length c' = l1 ++ c' :: l2 := by
  rw [List.set_append_right _ _ (Nat.le_refl _), Nat.sub_self, List.set_cons_zero]
theorem mid_of (cs : List (List Pc)) (k : Nat) (hk : k < cs.length) : ∃ l1 l2, cs = l1 ++ cs.getD k [] :: l2 ∧ l1.length = k := by
  refine ⟨cs.take k, cs.drop (k + 1), ?_, by rw [List.length_take]; omega⟩
  conv => lhs; rw [← List.take_append_drop k cs]
  rw [List.drop_eq_getElem_cons hk, List.getD_eq_getElem?_getD, List.getElem?_eq_getElem hk]
  rfl
theorem Att_set {W C : Int} {l : List Pc} {cs : List (List Pc)} {i v k : Nat} (hi : i < l.length) (hk : k < cs.length) (h : Att W C l (cs.set k (cs.getD k [] ++ [rP l i])) (i + 1) v) : Att W C l cs i v := by
  obtain ⟨l1, l2, e, hl⟩ := mid_of cs k hk
  obtain ⟨bs, h1, h2, h3⟩ := h
  refine ⟨bs, h1, h2.trans ?_, h3⟩
  generalize cs.getD k [] = c at *
  subst e
  rw [← hl, set_midL, drop_cons' l i hi]
  simp only [List.flatten_append, List.flatten_cons, List.append_assoc, List.cons_append, List.nil_append]
  refine List.Perm.append_left _ (List.Perm.append_left _ ?_)
  exact List.perm_middle.symm
theorem Att_new {W C : Int} {l : List Pc} {cs : List (List Pc)} {i v : Nat} (hi : i < l.length) (h : Att W C l (cs ++ [[rP l i]]) (i + 1) v) : Att W C l cs i v := by
  obtain ⟨bs, h1, h2, h3⟩ := h
  refine ⟨bs, h1, h2.trans ?_, h3⟩
  rw [drop_cons' l i hi]
  simp
/-- A box that stands before the pieces: not empty, of oneC class. -/
def okBox (W C : Int) (c : List Pc) : Prop := c ≠ [] ∧ fitC W C c
theorem box_class {c : List Pc} (hc : c ≠ []) (e : Int) (h : ∀ x ∈ c, x.2.2.1 = e) : (boxOf c).1 = e := by
  unfold boxOf
  cases hg : c.getLast? with
  | none => exact absurd (List.getLast?_eq_none_iff.1 hg) hc
  | some y => exact h y (List.mem_of_getLast? hg)
theorem Low_step {W C : Int} {l : List Pc} (hl : ∀ x ∈ l, 0 ≤ x.2.1) {cs : List (List Pc)} (hcs : ∀ c ∈ cs, okBox W C c) {i v0 v : Nat} (hi : i < l.length)
    (h0 : Low W C l (cs ++ [[rP l i]]) (i + 1) v0) (hv0 : v ≤ v0)
    (hk : ∀ k, k < cs.length → takes W C (cs.getD k []) (rP l i) → Low W C l (cs.set k (cs.getD k [] ++ [rP l i])) (i + 1) v) : Low W C l cs i v := by
  intro xs es hx hf he hp
  rw [drop_cons' l i hi] at hp
  generalize hpq : rP l i = p at *
  have hm : p ∈ (xs.map (·.2)).flatten ++ es.flatten := hp.mem_iff.2 List.mem_cons_self
  rcases List.mem_append.1 hm with hm | hm
  · obtain ⟨d, hd, hpd⟩ := List.mem_flatten.1 hm
    obtain ⟨x, hxs, rfl⟩ := List.mem_map.1 hd
    obtain ⟨x1, x2, rfl⟩ := List.append_of_mem hxs
    obtain ⟨c, d⟩ := x
    obtain ⟨d1, d2, e⟩ := List.append_of_mem hpd
    simp only at e
    subst e
    subst hx
    have hlen : (x1.map (·.1)).length < ((x1 ++ (c, d1 ++ p :: d2) :: x2).map (·.1)).length := by simp
    have hget : ((x1 ++ (c, d1 ++ p :: d2) :: x2).map (·.1)).getD (x1.map (·.1)).length [] = c := by simp [List.getD_eq_getElem?_getD]
    have hfc := hf (c, d1 ++ p :: d2) (by simp)
    simp only at hfc
    obtain ⟨⟨w1, w2⟩, e, he1⟩ := hfc
    have hcb := hcs c (by simp)
    have hdl : ∀ x ∈ d1 ++ p :: d2, 0 ≤ x.2.1 := by
      intro x hx'
      have : x ∈ p :: l.drop (i + 1) := hp.mem_iff.1 (List.mem_append.2 (.inl (List.mem_flatten.2 ⟨d1 ++ p :: d2, by simp, hx'⟩)))
      rw [← hpq, ← drop_cons' l i hi] at this
      exact hl x (List.mem_of_mem_drop this)
    have hws : ∀ b : List Pc, (∀ x ∈ b, 0 ≤ x.2.1) → 0 ≤ wS b := by
      intro b hb
      induction b with
      | nil => exact Int.le_refl _
      | cons x b ih =>
        have := hb x List.mem_cons_self
        have := ih (fun y hy => hb y (List.mem_cons_of_mem _ hy))
        rw [wS_cons]; omega
    have h1 := hws d1 (fun x hx' => hdl x (by simp [hx']))
    have h2 := hws d2 (fun x hx' => hdl x (by simp [hx']))
    rw [wS_app, wS_app, wS_cons] at w1
    simp only [List.length_append, List.length_cons] at w2
    have ht : takes W C c p := ⟨(box_class hcb.1 e (fun x hx' => he1 x (List.mem_append.2 (.inl hx')))).trans (he1 p (by simp)).symm, by omega, by omega⟩
    have hlow := hk (x1.map (·.1)).length hlen (by rw [hget]; exact ht)
    rw [hget] at hlow
    have hset : ((x1 ++ (c, d1 ++ p :: d2) :: x2).map (·.1)).set (x1.map (·.1)).length (c ++ [p]) = (x1 ++ (c ++ [p], d1 ++ d2) :: x2).map (·.1) := by
      rw [List.map_append, List.map_cons, set_midL, List.map_append, List.map_cons]
    rw [hset] at hlow
    have hpd2 : (c ++ (d1 ++ p :: d2)).Perm ((c ++ [p]) ++ (d1 ++ d2)) := by
      rw [List.append_assoc]
      exact List.Perm.append_left _ (List.perm_middle.trans (List.Perm.refl _))
    have := hlow (x1 ++ (c ++ [p], d1 ++ d2) :: x2) es rfl (fun y hy => ?_) he ?_
    · simpa using this
    · rcases List.mem_append.1 hy with hy | hy
      · exact hf y (List.mem_append.2 (.inl hy))
      · rcases List.mem_cons.1 hy with rfl | hy
        · exact fitC_perm hpd2 (hf (c, d1 ++ p :: d2) (by simp))
        · exact hf y (List.mem_append.2 (.inr (List.mem_cons_of_mem _ hy)))
    · refine List.Perm.cons_inv (a := p) (List.Perm.trans ?_ hp)
      simp only [List.map_append, List.map_cons, List.flatten_append, List.flatten_cons, List.append_assoc, List.cons_append]
      have a1 : ∀ (A : List Pc) (B : List Pc), (p :: (A ++ B)).Perm (A ++ p :: B) := fun A B => List.perm_middle.symm
      exact (a1 _ _).trans (List.Perm.append_left _ (a1 _ _))
  · obtain ⟨e0, he0, hpe⟩ := List.mem_flatten.1 hm
    obtain ⟨e1, e2, rfl⟩ := List.append_of_mem he0
    obtain ⟨y1, y2, rfl⟩ := List.append_of_mem hpe
    have := h0 (xs ++ [([p], y1 ++ y2)]) (e1 ++ e2) (by rw [List.map_append, hx]; rfl) (fun y hy => ?_) (fun y hy => he y (by simp only [List.mem_append, List.mem_cons] at hy ⊢; rcases hy with h | h; exact .inl h; exact .inr (.inr h))) ?_
    · simp only [List.length_append, List.length_cons, List.length_nil] at this ⊢
      omega
    · rcases List.mem_append.1 hy with hy | hy
      · exact hf y hy
      · obtain rfl := List.mem_singleton.1 hy
        refine fitC_perm ?_ (he (y1 ++ p :: y2) (by simp))
        exact List.perm_middle
    · refine List.Perm.cons_inv (a := p) (List.Perm.trans ?_ hp)
      simp only [List.map_append, List.map_cons, List.map_nil, List.flatten_append, List.flatten_cons, List.flatten_nil, List.append_assoc, List.cons_append, List.append_nil]
      have a1 : ∀ (A : List Pc) (B : List Pc), (p :: (A ++ B)).Perm (A ++ p :: B) := fun A B => List.perm_middle.symm
      refine (a1 _ _).trans (List.Perm.append_left _ ?_)
      refine (a1 _ _).trans ?_
      have h := (List.perm_append_comm_assoc e1.flatten (y1 ++ p :: y2) e2.flatten).symm
      simp only [List.append_assoc, List.cons_append] at h
      exact h
/-- What is kept of the boxes that stand before the pieces. -/
structure Was (W C : Int) (l : List Pc) (cs : List (List Pc)) (i : Nat) : Prop where
  ok : ∀ c ∈ cs, okBox W C c
  few : cs.length ≤ i
  all : ∀ c ∈ cs, c.length ≤ i ∧ 0 ≤ wS c ∧ wS c ≤ 60 * (i : Int)
theorem Was_new {W C : Int} (hW : 60 ≤ W) (hC : 1 ≤ C) {l : List Pc} (hl : ∀ x ∈ l, 0 ≤ x.2.1 ∧ x.2.1 ≤ 60) {cs : List (List Pc)} {i : Nat} (hi : i < l.length) (h : Was W C l cs i) : Was W C l (cs ++ [[rP l i]]) (i + 1) := by
  have hx := hl _ (show rP l i ∈ l by unfold rP; rw [rd_lt hi]; exact List.getElem_mem hi)
  generalize rP l i = p at *
  have e : wS [p] = p.2.1 := by simp [wS]
  refine ⟨fun c hc => ?_, by have := h.few; simp; omega, fun c hc => ?_⟩
  · rcases List.mem_append.1 hc with hc | hc
    · exact h.ok c hc
    · obtain rfl := List.mem_singleton.1 hc
      refine ⟨by simp, ⟨by rw [e]; omega, by simp; omega⟩, p.2.2.1, fun x hx => ?_⟩
      rw [List.mem_singleton.1 hx]
  · rcases List.mem_append.1 hc with hc | hc
    · have := h.all c hc
      exact ⟨by omega, this.2.1, by omega⟩
    · obtain rfl := List.mem_singleton.1 hc
      rw [e]
      exact ⟨by simp, hx.1, by omega⟩
theorem Was_set {W C : Int} {l : List Pc} (hl : ∀ x ∈ l, 0 ≤ x.2.1 ∧ x.2.1 ≤ 60) {cs : List (List Pc)} {i : Nat} (hi : i < l.length) (h : Was W C l cs i) (k : Nat) (hk : k < cs.length) (ht : takes W C (cs.getD k []) (rP l i)) : Was W C l (cs.set k (cs.getD k [] ++ [rP l i])) (i + 1) := by
  have hx := hl _ (show rP l i ∈ l by unfold rP; rw [rd_lt hi]; exact List.getElem_mem hi)
  have hm : cs.getD k [] ∈ cs := by rw [List.getD_eq_getElem?_getD, List.getElem?_eq_getElem hk]; exact List.getElem_mem hk
  generalize rP l i = p at *
  generalize cs.getD k [] = c0 at *
  have e : wS (c0 ++ [p]) = wS c0 + p.2.1 := by simp [wS]
  have h0 := h.all c0 hm
  refine ⟨fun c hc => ?_, by have := h.few; rw [List.length_set]; omega, fun c hc => ?_⟩
  · rcases List.mem_or_eq_of_mem_set hc with hc | rfl
    · exact h.ok c hc
    · obtain ⟨hne, _, f, hf⟩ := h.ok c0 hm
      obtain ⟨t1, t2, t3⟩ := ht
      refine ⟨by simp, ⟨by rw [e]; exact t3, by simp; omega⟩, f, fun x hx => ?_⟩
      rcases List.mem_append.1 hx with hx | hx
      · exact hf x hx
      · rw [List.mem_singleton.1 hx, ← t1]
        exact box_class hne f hf
  · rcases List.mem_or_eq_of_mem_set hc with hc | rfl
    · have := h.all c hc
      exact ⟨by omega, this.2.1, by omega⟩
    · rw [e]
      exact ⟨by simp; omega, by omega, by omega⟩
theorem getBox (cs : List (List Pc)) (k : Nat) (hk : k < cs.length) : rdP (0, 0, [], ()) (cs.map boxOf) k = boxOf (cs.getD k []) := by
  unfold rdP
  simp [List.getD_eq_getElem?_getD, hk]
end Go.Proofs.Ytcfbjloblbhdhaa.Eng
