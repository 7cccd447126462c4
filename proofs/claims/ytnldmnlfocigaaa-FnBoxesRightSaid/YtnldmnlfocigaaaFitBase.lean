/- First fit: what the reference computes. No condition. -/
import Derived.Test.YtnldmnlfocigaaaLimBase
import Derived.Test.YtnldmnlfocigaaaF44
namespace Go.Proofs.Ytnldmnlfocigaaa.F
open Go.RowKit Go.Proofs.YtnldmnlfocigaaaW.PrintWords Go.Proofs.YtnldmnlfocigaaaW.PrintLast Go.Proofs.Ytnldmnlfocigaaa.Opn
set_option linter.unusedVariables false
set_option linter.unusedSimpArgs false
def fitsB (m0 m1 : Int) (p : Pc) (x : Bx) : Bool := if x.f0 = p.f2 then (if (x.f2.length : Int) < m1 then decide (wrap64 (x.f1 + p.f1) ≤ m0) else false) else false
def addB (x : Bx) (p : Pc) : Bx := ⟨p.f2, wrap64 (x.f1 + p.f1), x.f2 ++ [p.f0]⟩
def stepF (m0 m1 : Int) (out : List Bx) (p : Pc) : List Bx := match out.findIdx? (fitsB m0 m1 p) with | some i => out.set i (addB (out.getD i z62) p) | none => out ++ [addB ⟨0, 0, []⟩ p]
def ffN (m0 m1 : Int) (l : List Pc) : Nat → List Bx
  | 0 => []
  | i + 1 => stepF m0 m1 (ffN m0 m1 l i) (l.getD i z80)
def FF (m0 m1 : Int) (l : List Pc) : List Bx := if LO m0 m1 ∧ PP l then ffN m0 m1 l l.length else []
theorem ffN_inv (m0 m1 : Int) (l : List Pc) : ∀ i, (ffN m0 m1 l i).length ≤ i ∧ ∀ x ∈ ffN m0 m1 l i, x.f2.length ≤ i
  | 0 => ⟨Nat.le_refl _, fun x hx => absurd hx (by simp [ffN])⟩
  | i + 1 => by
    obtain ⟨h1, h2⟩ := ffN_inv m0 m1 l i
    unfold ffN stepF
    cases hf : (ffN m0 m1 l i).findIdx? (fitsB m0 m1 (l.getD i z80)) with
    | none =>
      refine ⟨by simp; omega, fun x hx => ?_⟩
      rcases List.mem_append.1 hx with hx | hx
      · have := h2 x hx; omega
      · rw [List.mem_singleton.1 hx]; simp [addB]
    | some j =>
      obtain ⟨hj, _⟩ := List.findIdx?_eq_some_iff_getElem.1 hf
      refine ⟨by simp only [List.length_set]; omega, fun x hx => ?_⟩
      rcases List.mem_or_eq_of_mem_set hx with hx | rfl
      · have := h2 x hx; omega
      · have := h2 _ (getD_mem _ z62 j hj)
        simp only [addB, List.length_append, List.length_cons, List.length_nil]
        omega
theorem FF_bound (m0 m1 : Int) (l : List Pc) : (FF m0 m1 l).length ≤ 40 ∧ ∀ x ∈ FF m0 m1 l, x.f2.length ≤ 40 := by
  unfold FF
  split
  · rename_i h
    obtain ⟨h1, h2⟩ := ffN_inv m0 m1 l l.length
    have := h.2.1
    exact ⟨by omega, fun x hx => by have := h2 x hx; omega⟩
  · exact ⟨by simp, fun x hx => absurd hx (by simp)⟩
theorem idx_cases (m0 m1 : Int) (p : Pc) (out : List Bx) : (out.findIdx? (fitsB m0 m1 p) = none ∧ fidx (fitsB m0 m1 p) out = -1 ∧ ∀ j, j < out.length → fitsB m0 m1 p (out.getD j z62) = false) ∨ ∃ i, i < out.length ∧ out.findIdx? (fitsB m0 m1 p) = some i ∧ fidx (fitsB m0 m1 p) out = (i : Int) ∧ fitsB m0 m1 p (out.getD i z62) = true ∧ ∀ j, j < i → fitsB m0 m1 p (out.getD j z62) = false := by
  cases hf : out.findIdx? (fitsB m0 m1 p) with
  | none =>
    refine .inl ⟨rfl, by unfold fidx; rw [hf], fun j hj => ?_⟩
    rw [List.findIdx?_eq_none_iff] at hf
    exact hf _ (getD_mem out _ j hj)
  | some i =>
    obtain ⟨hi, h1, h2⟩ := List.findIdx?_eq_some_iff_getElem.1 hf
    refine .inr ⟨i, hi, rfl, by unfold fidx; rw [hf], by rw [List.getD_eq_getElem?_getD, List.getElem?_eq_getElem hi]; exact h1, fun j hj => ?_⟩
    have := h2 j hj
    rw [List.getD_eq_getElem?_getD, List.getElem?_eq_getElem (by omega)]
    simpa using this
theorem getD_box_set (l : List Bx) (i : Nat) (x : Bx) (h : i < l.length) : (l.set i x).getD i z62 = x := by simp [List.getD_eq_getElem?_getD, h]
theorem getD_box_last (l : List Bx) (x : Bx) : (l ++ [x]).getD l.length z62 = x := by simp [List.getD_eq_getElem?_getD]
theorem set_box_last (l : List Bx) (x y : Bx) : (l ++ [x]).set l.length y = l ++ [y] := by
  rw [List.set_append_right _ _ (Nat.le_refl _), Nat.sub_self, List.set_cons_zero]
theorem withB (x : Bx) (p : Pc) (h : x.f2.length ≤ 1048576) : spec_l07With.f x.f0 x.f1 x.f2 p.f0 p.f1 p.f2 = some ((addB x p).f0, (addB x p).f1, (addB x p).f2) := by
  unfold spec_l07With.f addB
  simp only [Option.bind_some, List.nil_append, List.length_nil, List.length_cons]
  rw [if_pos (by omega), if_pos (by omega)]
theorem takesB (m0 m1 : Int) (x : Bx) (p : Pc) : spec_l07Takes.f m0 m1 x.f0 x.f1 x.f2 p.f0 p.f1 p.f2 = some (fitsB m0 m1 p x) := by
  unfold spec_l07Takes.f fitsB
  split
  · split <;> rfl
  · rfl
theorem ev_spec_FirstFit (m0 m1 : Int) (l : List Pc) (hl : l.length ≤ 1048576) : Ev (fun k => spec_FirstFit.f k m0 m1 l) (FF m0 m1 l) := by
  unfold spec_FirstFit.f FF
  rw [spec_LimitsOk_eq]
  have no : ∀ x, x = true → Ev (fun k => spec_FirstFit.j0 k l [] x m0 m1) [] := fun x hx => Ev.step (fun k => spec_FirstFit.j0.eq_2 ..) (Ev.pos hx (Ev.now _))
  refine Ev.bs (Ev.bs (Ev.ite (fun h1 => Ev.bd (ev_spec_PiecesOk l hl) ?_) (fun h1 => ?_)))
  · have h1' : LO m0 m1 := of_decide_eq_true h1
    by_cases h2 : PP l
    · rw [decide_eq_true h2, if_pos ⟨h1', h2⟩]
      have h40 := h2.1
      refine Ev.step (fun k => spec_FirstFit.j0.eq_2 ..) (Ev.neg (by simp) ?_)
      refine up_state (fun k s i => spec_FirstFit.l0 k l s i m0 m1) l.length (fun i => ffN m0 m1 l i) _ ?_ ?_ 0 (by omega)
      · exact Ev.step (fun k => spec_FirstFit.l0.eq_2 ..) (Ev.neg (by omega) (Ev.now _))
      · intro i hi ih
        obtain ⟨b1, b2⟩ := ffN_inv m0 m1 l i
        have hst : ffN m0 m1 l (i + 1) = stepF m0 m1 (ffN m0 m1 l i) (l.getD i z80) := rfl
        rw [hst] at ih
        refine Ev.step (fun k => spec_FirstFit.l0.eq_2 ..) (Ev.pos (by omega) ?_)
        generalize ffN m0 m1 l i = out at *
        obtain ⟨p, hp⟩ : ∃ p, l.getD i z80 = p := ⟨_, rfl⟩
        rw [hp] at ih
        unfold stepF at ih
        have step : ∀ j, j < out.length → fitsB m0 m1 p (out.getD j z62) = false → ∀ r, Ev (fun k => spec_FirstFit.l1 k l out (i : Int) ((j + 1 : Nat) : Int) m0 m1) r → Ev (fun k => spec_FirstFit.l1 k l out (i : Int) (j : Int) m0 m1) r := by
          intro j hj hf r ihj
          refine Ev.step (fun k => spec_FirstFit.l1.eq_2 ..) (Ev.pos (by omega) (Ev.pos (by omega) (Ev.pos (by omega) (Ev.pos (by omega) ?_))))
          simp only [rdP_nat, rdBx_nat, hp, takesB, hf, wrap_succ j (by omega)]
          exact Ev.bs (Ev.neg (by simp) ihj)
        rcases idx_cases m0 m1 p out with ⟨e1, _, e3⟩ | ⟨j, hj, e1, _, e3, e4⟩
        · rw [e1] at ih
          refine up_loop (fun k j => spec_FirstFit.l1 k l out (i : Int) j m0 m1) out.length (fun _ => ffN m0 m1 l l.length) ?_ (fun j hj ihj => step j hj (e3 j hj) _ ihj) 0 (by omega)
          refine Ev.step (fun k => spec_FirstFit.l1.eq_2 ..) (Ev.neg (by omega) (Ev.pos rfl (Ev.pos (by omega) (Ev.bs (Ev.pos (by omega) (Ev.pos (by simp; omega) (Ev.pos (by omega) (Ev.pos (by omega) ?_))))))))
          simp only [rdP_nat, rdBx_nat, hp, Int.toNat_natCast, getD_box_last]
          rw [withB ⟨0, 0, []⟩ p (by simp)]
          simp only [set_box_last, wrap_succ i (by omega)]
          exact Ev.bs ih
        · rw [e1] at ih
          have hlen := b2 _ (getD_mem out z62 j hj)
          refine up_loop (fun k j => spec_FirstFit.l1 k l out (i : Int) j m0 m1) j (fun _ => ffN m0 m1 l l.length) ?_ (fun q hq ihq => step q (by omega) (e4 q hq) _ ihq) 0 (by omega)
          refine Ev.step (fun k => spec_FirstFit.l1.eq_2 ..) (Ev.pos (by omega) (Ev.pos (by omega) (Ev.pos (by omega) (Ev.pos (by omega) ?_))))
          simp only [rdP_nat, rdBx_nat, hp, takesB, e3, Int.toNat_natCast]
          refine Ev.bs (Ev.pos rfl (Ev.neg (by omega) ?_))
          rw [withB _ p (by omega)]
          simp only [wrap_succ i (by omega)]
          exact Ev.bs ih
    · rw [decide_eq_false h2, if_neg (fun h => h2 h.2)]
      exact Ev.step (fun k => spec_FirstFit.j0.eq_2 ..) (Ev.pos (by simp) (Ev.now _))
  · rw [if_neg (fun h => h1 (decide_eq_true h.1))]
    exact no _ rfl
end Go.Proofs.Ytnldmnlfocigaaa.F
