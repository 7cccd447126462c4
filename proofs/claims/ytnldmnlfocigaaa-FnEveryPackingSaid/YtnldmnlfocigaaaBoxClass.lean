/- The program's least number of boxes: the least number of groups of one class each. No condition. -/
import Derived.Test.YtnldmnlfocigaaaBoxFew
import Derived.Test.YtnldmnlfocigaaaLoadClass
import Derived.Test.YtnldmnlfocigaaaF41
namespace Go.Proofs.Ytnldmnlfocigaaa.F
open Go.RowKit Go.Proofs.YtnldmnlfocigaaaW.PrintWords Go.Proofs.YtnldmnlfocigaaaW.PrintLast Go.Proofs.Ytnldmnlfocigaaa.Opn
set_option linter.unusedVariables false
set_option linter.unusedSimpArgs false
def one (b : List Pc) : Prop := ∃ c, ∀ x ∈ b, x.f2 = c
/-- Groups that hold just these pieces, each within the limits and of one class. -/
def PkC (W C : Int) (L : List Pc) (bs : List (List Pc)) : Prop := bs.flatten.Perm L ∧ ∀ b ∈ bs, fit W C b ∧ one b
def OptC (W C : Int) (L : List Pc) (v : Nat) : Prop := (∃ bs, PkC W C L bs ∧ bs.length = v) ∧ ∀ bs, PkC W C L bs → v ≤ bs.length
theorem OptC_one {W C : Int} {L : List Pc} {u v : Nat} (hu : OptC W C L u) (hv : OptC W C L v) : u = v := by
  obtain ⟨⟨b1, h1, rfl⟩, k1⟩ := hu
  obtain ⟨⟨b2, h2, rfl⟩, k2⟩ := hv
  have := k1 b2 h2
  have := k2 b1 h1
  omega
theorem split_class (c : Int) : ∀ bs : List (List Pc), (∀ b ∈ bs, one b) → ∃ b1 b2 : List (List Pc), b1.length + b2.length = bs.length ∧ b1.flatten = bs.flatten.filter (fun x => x.f2 != c) ∧ b2.flatten = bs.flatten.filter (fun x => x.f2 == c) ∧ (∀ b ∈ b1, b ∈ bs) ∧ (∀ b ∈ b2, b ∈ bs ∧ ∀ x ∈ b, x.f2 = c)
  | [], _ => ⟨[], [], rfl, rfl, rfl, fun b h => h, fun b h => absurd h (by simp)⟩
  | b :: bs, h => by
    obtain ⟨b1, b2, h1, h2, h3, h4, h5⟩ := split_class c bs (fun x hx => h x (List.mem_cons_of_mem _ hx))
    obtain ⟨e, he⟩ := h b List.mem_cons_self
    simp only [List.flatten_cons, List.filter_append]
    by_cases hc : e = c
    · have e1 : b.filter (fun x => x.f2 == c) = b := List.filter_eq_self.2 (fun x hx => by rw [he x hx, hc]; simp)
      have e2 : b.filter (fun x => x.f2 != c) = [] := List.filter_eq_nil_iff.2 (fun x hx => by rw [he x hx, hc]; simp)
      refine ⟨b1, b :: b2, by simp only [List.length_cons]; omega, by rw [e2, h2]; rfl, by rw [List.flatten_cons, e1, h3], fun x hx => List.mem_cons_of_mem _ (h4 x hx), fun x hx => ?_⟩
      rcases List.mem_cons.1 hx with rfl | hx
      · exact ⟨List.mem_cons_self, fun y hy => (he y hy).trans hc⟩
      · exact ⟨List.mem_cons_of_mem _ (h5 x hx).1, (h5 x hx).2⟩
    · have e1 : b.filter (fun x => x.f2 == c) = [] := List.filter_eq_nil_iff.2 (fun x hx => by rw [he x hx]; simpa using hc)
      have e2 : b.filter (fun x => x.f2 != c) = b := List.filter_eq_self.2 (fun x hx => by rw [he x hx]; simpa using hc)
      refine ⟨b :: b1, b2, by simp only [List.length_cons]; omega, by rw [List.flatten_cons, e2, h2], by rw [e1, h3]; rfl, fun x hx => ?_, fun x hx => ⟨List.mem_cons_of_mem _ (h5 x hx).1, (h5 x hx).2⟩⟩
      rcases List.mem_cons.1 hx with rfl | hx
      · exact List.mem_cons_self
      · exact List.mem_cons_of_mem _ (h4 x hx)
/-- A class more. -/
theorem OptC_add {W C : Int} (c : Int) (L A : List Pc) (u v : Nat) (hA : A = L.filter (fun x => x.f2 != c)) (hu : OptC W C A u) (hv : Opt W C (ofC L c) v) : OptC W C L (u + v) := by
  have hperm : (A ++ ofC L c).Perm L := by
    rw [hA]
    unfold ofC
    refine List.Perm.trans List.perm_append_comm ?_
    have := List.filter_append_perm (fun x : Pc => x.f2 == c) L
    have e : (fun x : Pc => x.f2 != c) = (fun x => !(x.f2 == c)) := by funext x; rfl
    rw [e]
    exact this
  obtain ⟨⟨b1, h1, rfl⟩, k1⟩ := hu
  obtain ⟨⟨b2, h2, rfl⟩, k2⟩ := hv
  refine ⟨⟨b1 ++ b2, ⟨?_, fun b hb => ?_⟩, by simp⟩, fun bs hbs => ?_⟩
  · rw [List.flatten_append]
    exact (h1.1.append h2.1).trans hperm
  · rcases List.mem_append.1 hb with hb | hb
    · exact h1.2 b hb
    · refine ⟨h2.2 b hb, c, fun x hx => ?_⟩
      have hm : x ∈ ofC L c := h2.1.mem_iff.1 (List.mem_flatten.2 ⟨b, hb, hx⟩)
      unfold ofC at hm
      simpa using (List.mem_filter.1 hm).2
  · obtain ⟨d1, d2, g1, g2, g3, g4, g5⟩ := split_class c bs (fun b hb => (hbs.2 b hb).2)
    have i1 := k1 d1 ⟨by rw [g2, hA]; exact hbs.1.filter _, fun b hb => hbs.2 b (g4 b hb)⟩
    have i2 := k2 d2 ⟨by rw [g3]; exact hbs.1.filter _, fun b hb => (hbs.2 b (g5 b hb).1).1⟩
    omega
def below (L : List Pc) (c : Nat) : List Pc := L.filter (fun x => decide (x.f2 < (c : Int)))
theorem below_ofC (L : List Pc) (c : Nat) : ofC (below L (c + 1)) (c : Int) = ofC L (c : Int) := by
  unfold ofC below
  rw [List.filter_filter]
  refine List.filter_congr (fun x _ => ?_)
  by_cases h : x.f2 = (c : Int)
  · simp [h]; omega
  · simp [h]
theorem below_next (L : List Pc) (hL : ∀ x ∈ L, 0 ≤ x.f2) (c : Nat) : below L c = (below L (c + 1)).filter (fun x => x.f2 != (c : Int)) := by
  unfold below
  rw [List.filter_filter]
  refine List.filter_congr (fun x _ => ?_)
  by_cases h : x.f2 < (c : Int)
  · have h1 : x.f2 < ((c + 1 : Nat) : Int) := by omega
    have h2 : x.f2 ≠ (c : Int) := by omega
    simp [h, h1, h2]
    omega
  · by_cases h2 : x.f2 = (c : Int)
    · simp [h2]
    · have h1 : ¬ x.f2 < ((c + 1 : Nat) : Int) := by omega
      simp [h, h1]
      omega
theorem below_six {l : List Pc} (h : PP l) : below l 6 = l := by
  unfold below
  refine List.filter_eq_self.2 (fun x hx => ?_)
  have := (PP_mem h x hx).2.2.2.2
  simp; omega
theorem below_zero {l : List Pc} (h : PP l) : below l 0 = [] := by
  unfold below
  refine List.filter_eq_nil_iff.2 (fun x hx => ?_)
  have := (PP_mem h x hx).2.2.2.1
  simp; omega
theorem OptC_nil (W C : Int) : OptC W C [] 0 := ⟨⟨[], ⟨List.Perm.refl _, fun b hb => absurd hb (by simp)⟩, rfl⟩, fun _ _ => Nat.zero_le _⟩
theorem few_classes (a b : Int) (l : List Pc) (ha : 60 ≤ a) (hb : 1 ≤ b) (hl : l.length ≤ 8) (hp : PP l) : ∀ d c u, 6 - c = d → c ≤ 6 → u ≤ 8 * c → OptC a b (below l c) u → ∃ v : Nat, OptC a b l v ∧ Ev (fun k => impl_FewestBoxes.l0 k l (u : Int) (c : Int) a b) (v : Int) := by
  intro d
  induction d with
  | zero =>
    intro c u hd hc hu ho
    obtain rfl : c = 6 := by omega
    rw [below_six hp] at ho
    exact ⟨u, ho, Ev.step (fun k => impl_FewestBoxes.l0.eq_2 ..) (Ev.neg (by omega) (Ev.now _))⟩
  | succ d ih =>
    intro c u hd hc hu ho
    have hlen : (ofC l (c : Int)).length ≤ 8 := Nat.le_trans (List.length_filter_le _ _) hl
    obtain ⟨v, hv, hv8, ev⟩ := ev_fewest (ofC l (c : Int)) hlen (fun x hx => by have := PP_mem hp x (List.mem_filter.1 hx).1; exact ⟨by have := this.2.1; omega, this.2.2.1⟩) a b ha hb
    obtain ⟨r, hr, er⟩ := ih (c + 1) (u + v) (by omega) (by omega) (by omega) (OptC_add (c : Int) (below l (c + 1)) (below l c) u v (below_next l (fun x hx => (PP_mem hp x hx).2.2.2.1) c) ho (by rw [below_ofC]; exact hv))
    refine ⟨r, hr, Ev.step (fun k => impl_FewestBoxes.l0.eq_2 ..) (Ev.pos (by omega) ?_)⟩
    rw [ofClass_eq l _ (by omega)]
    refine Ev.bs (Ev.bd ev ?_)
    rw [wrap_succ c (by omega), wrap_id (x := (u : Int) + (v : Int)) (by omega) (by omega)]
    exact er
theorem ev_impl_FewestBoxes (a b : Int) (l : List Pc) (hl : l.length ≤ 1048576) : ∃ r : Int, Ev (fun k => impl_FewestBoxes.f k a b l) r ∧ if LO a b ∧ PP l ∧ l.length ≤ 8 then ∃ v : Nat, OptC a b l v ∧ r = (v : Int) else r = -1 := by
  unfold impl_FewestBoxes.f
  rw [impl_LimitsOk_eq]
  have no : ∀ x, x = true → Ev (fun k => impl_FewestBoxes.j0 k l x a b) (-1) := fun x hx => Ev.step (fun k => impl_FewestBoxes.j0.eq_2 ..) (Ev.pos hx (Ev.now _))
  by_cases h : LO a b ∧ PP l ∧ l.length ≤ 8
  · obtain ⟨v, hv, ev⟩ := few_classes a b l h.1.1 h.1.2.2.1 h.2.2 h.2.1 6 0 0 rfl (by omega) (by omega) (by rw [below_zero h.2.1]; exact OptC_nil a b)
    refine ⟨v, Ev.bs (Ev.pos (decide_eq_true h.1) (Ev.bd (ev_impl_PiecesOk l hl) (Ev.pos (decide_eq_true h.2.1) (Ev.step (fun k => impl_FewestBoxes.j0.eq_2 ..) (Ev.neg (by simp; omega) ev))))), ?_⟩
    rw [if_pos h]
    exact ⟨v, hv, rfl⟩
  · refine ⟨-1, Ev.bs (Ev.ite (fun h1 => Ev.bd (ev_impl_PiecesOk l hl) (Ev.ite (fun h2 => no _ ?_) (fun h2 => no _ rfl))) (fun h1 => no _ rfl)), by rw [if_neg h]⟩
    have h1' := of_decide_eq_true h1
    have h2' := of_decide_eq_true h2
    exact decide_eq_true (by
      refine Classical.byContradiction fun hn => h ⟨h1', h2', by omega⟩)
end Go.Proofs.Ytnldmnlfocigaaa.F
