/- What the laws' own functions on lists of boxes do. No condition. -/
import Derived.Test.YtnldmnlfocigaaaLimBase
import Derived.Test.YtnldmnlfocigaaaF54
import Derived.Test.YtnldmnlfocigaaaF46
import Derived.Test.YtnldmnlfocigaaaF53
namespace Go.Proofs.Ytnldmnlfocigaaa.F
open Go.RowKit Go.Proofs.YtnldmnlfocigaaaW.PrintWords Go.Proofs.YtnldmnlfocigaaaW.PrintLast Go.Proofs.Ytnldmnlfocigaaa.Opn
set_option linter.unusedVariables false
set_option linter.unusedSimpArgs false
theorem ev_toIntS' (l : List Int) (h : l.length ≤ 1048576) : Ev (fun k => laws_toIntS.f k l) l := by
  unfold laws_toIntS.f
  refine Ev.pos (by omega) (Ev.pos (by simp; omega) ?_)
  have hl : (List.range l.length).map (fun j => l.getD j 0) = l := by simpa using map_range_eq (fun x => x) l 0
  have hf : List.replicate ((l.length : Int)).toNat (0 : Int) = filled (fun j => l.getD j 0) (List.replicate l.length 0) 0 := by rw [filled_zero]; simp
  rw [hf]
  refine up_state (fun k s i => laws_toIntS.l0 k l s i) l.length (fun i => filled (fun j => l.getD j 0) (List.replicate l.length 0) i) _ ?_ ?_ 0 (by omega)
  · refine Ev.step (fun k => laws_toIntS.l0.eq_2 ..) (Ev.neg (by omega) (Ev.some_ ?_))
    have := filled_all (fun j => l.getD j 0) (List.replicate l.length (0 : Int))
    simp only [List.length_replicate] at this
    rw [this, hl]
  · intro i hi ih
    refine Ev.step (fun k => laws_toIntS.l0.eq_2 ..) (Ev.pos (by omega) (Ev.pos (by omega) ?_))
    simp only [rd_natI, Int.toNat_natCast, wrap_succ i (by omega)]
    refine Ev.pos (by rw [filled_length _ _ _ (by simp; omega)]; simp; omega) ?_
    rw [← filled_set _ _ i (by simp; omega)] at ih
    exact ih
theorem ev_eqIntS' (l : List Int) (h : l.length ≤ 1048576) : Ev (fun k => laws_eqIntS.f k l l) true := by
  unfold laws_eqIntS.f
  refine Ev.pos rfl ?_
  refine up_loop (fun k i => laws_eqIntS.l0 k l l i) l.length (fun _ => true) ?_ ?_ 0 (by omega)
  · exact Ev.step (fun k => laws_eqIntS.l0.eq_2 ..) (Ev.neg (by omega) (Ev.now _))
  · intro i hi ih
    refine Ev.step (fun k => laws_eqIntS.l0.eq_2 ..) (Ev.pos (by omega) (Ev.pos (by omega) (Ev.pos (by omega) (Ev.pos rfl ?_))))
    simp only [wrap_succ i (by omega)]
    exact ih
abbrev LBx := S99
def cvB (x : LBx) : Bx := ⟨x.f0, x.f1, x.f2⟩
theorem rdLB_nat (l : List LBx) (i : Nat) : rd_T99 l (i : Int) = l.getD i z99 := by simp [rd_T99]
theorem ev_toBoxS (l : List LBx) (h : l.length ≤ 1048576) (hb : ∀ x ∈ l, x.f2.length ≤ 1048576) : Ev (fun k => laws_toBoxS.f k l) (l.map cvB) := by
  unfold laws_toBoxS.f
  refine Ev.pos (by omega) (Ev.pos (by simp; omega) ?_)
  rw [← map_range_eq cvB l z99]
  have hf : List.replicate ((l.length : Int)).toNat z62 = filled (fun j => cvB (l.getD j z99)) (List.replicate l.length z62) 0 := by rw [filled_zero]; simp
  rw [hf]
  refine up_state (fun k s i => laws_toBoxS.l0 k l s i) l.length (fun i => filled (fun j => cvB (l.getD j z99)) (List.replicate l.length z62) i) _ ?_ ?_ 0 (by omega)
  · refine Ev.step (fun k => laws_toBoxS.l0.eq_2 ..) (Ev.neg (by omega) (Ev.some_ ?_))
    have := filled_all (fun j => cvB (l.getD j z99)) (List.replicate l.length z62)
    simpa using this
  · intro i hi ih
    refine Ev.step (fun k => laws_toBoxS.l0.eq_2 ..) (Ev.pos (by omega) (Ev.pos (by omega) ?_))
    simp only [rdLB_nat, Int.toNat_natCast, wrap_succ i (by omega)]
    refine Ev.bd (a := ((l.getD i z99).f0, (l.getD i z99).f1, (l.getD i z99).f2)) ?_ (Ev.pos (by rw [filled_length _ _ _ (by simp; omega)]; simp; omega) ?_)
    · unfold laws_toBox.f
      exact Ev.bd (ev_toIntS' _ (hb _ (getD_mem l _ i hi))) (Ev.now _)
    · rw [← filled_set _ _ i (by simp; omega)] at ih
      exact ih
theorem ev_eqBoxS (l : List Bx) (h : l.length ≤ 1048576) (hb : ∀ x ∈ l, x.f2.length ≤ 1048576) : Ev (fun k => laws_eqBoxS.f k l l) true := by
  unfold laws_eqBoxS.f
  refine Ev.pos rfl ?_
  refine up_loop (fun k i => laws_eqBoxS.l0 k l l i) l.length (fun _ => true) ?_ ?_ 0 (by omega)
  · exact Ev.step (fun k => laws_eqBoxS.l0.eq_2 ..) (Ev.neg (by omega) (Ev.now _))
  · intro i hi ih
    refine Ev.step (fun k => laws_eqBoxS.l0.eq_2 ..) (Ev.pos (by omega) (Ev.pos (by omega) (Ev.pos (by omega) ?_)))
    simp only [rdBx_nat, wrap_succ i (by omega)]
    refine Ev.bd (a := true) ?_ (Ev.pos rfl ih)
    unfold laws_eqBox.f
    exact Ev.pos rfl (Ev.pos rfl (Ev.bd (ev_eqIntS' _ (hb _ (getD_mem l _ i hi))) (Ev.pos rfl (Ev.now _))))
theorem ev_szBoxS (l : List LBx) (n : Int) (h0 : 0 ≤ n) (h1 : n ≤ 1048576) (h : l.length ≤ maxLen) (hb : ∀ x ∈ l, x.f2.length ≤ maxLen) :
    ∃ r : Int, Ev (fun k => laws_szBoxS.f k l n) r ∧ (0 ≤ r → l.length ≤ 1048576 ∧ ∀ x ∈ l, x.f2.length ≤ 1048576) := by
  have h' : l.length ≤ 2 ^ 63 - 1 := h
  unfold laws_szBoxS.f
  rw [wrap_id (x := n - (l.length : Int)) (by omega) (by omega)]
  by_cases hn : n - (l.length : Int) < 0
  · exact ⟨-1, Ev.pos hn (Ev.now _), fun h => by omega⟩
  · have loop : ∀ d i (v : Int), l.length - i = d → i ≤ l.length → 0 ≤ v → v ≤ 1048576 → ∃ r : Int, Ev (fun k => laws_szBoxS.l0 k l v (i : Int)) r ∧ (0 ≤ r → ∀ j, i ≤ j → j < l.length → (l.getD j z99).f2.length ≤ 1048576) := by
      intro d
      induction d with
      | zero =>
        intro i v hd hi v0 v1
        exact ⟨v, Ev.step (fun k => laws_szBoxS.l0.eq_2 ..) (Ev.neg (by omega) (Ev.now _)), fun _ j h1 h2 => by omega⟩
      | succ d ih =>
        intro i v hd hi v0 v1
        have hi' : i < l.length := by omega
        have hx : (l.getD i z99).f2.length ≤ 2 ^ 63 - 1 := hb _ (getD_mem l _ i hi')
        by_cases hv : v - ((l.getD i z99).f2.length : Int) < 0
        · refine ⟨-1, Ev.step (fun k => laws_szBoxS.l0.eq_2 ..) (Ev.pos (by omega) (Ev.pos (by omega) ?_)), fun h => by omega⟩
          simp only [rdLB_nat, laws_szBox.f, laws_szIntS.f]
          rw [wrap_id (x := v - _) (by omega) (by omega), if_pos hv]
          exact Ev.bs (Ev.pos (by decide) (Ev.now _))
        · obtain ⟨r, hr, hl⟩ := ih (i + 1) (v - ((l.getD i z99).f2.length : Int)) (by omega) (by omega) (by omega) (by omega)
          refine ⟨r, Ev.step (fun k => laws_szBoxS.l0.eq_2 ..) (Ev.pos (by omega) (Ev.pos (by omega) ?_)), fun h j h1 h2 => ?_⟩
          · simp only [rdLB_nat, laws_szBox.f, laws_szIntS.f, wrap_succ i (by omega)]
            rw [wrap_id (x := v - _) (by omega) (by omega), if_neg hv]
            simp only [Option.bind_some]
            rw [if_neg hv]
            exact Ev.bs (Ev.neg hv hr)
          · by_cases e : j = i
            · subst e; omega
            · exact hl h j (by omega) h2
    obtain ⟨r, hr, hl⟩ := loop _ 0 (n - (l.length : Int)) rfl (by omega) (by omega) (by omega)
    refine ⟨r, Ev.neg hn hr, fun h => ⟨by omega, fun x hx => ?_⟩⟩
    obtain ⟨j, hj, rfl⟩ := List.getElem_of_mem hx
    have := hl h j (by omega) hj
    rwa [List.getD_eq_getElem?_getD, List.getElem?_eq_getElem hj] at this
end Go.Proofs.Ytnldmnlfocigaaa.F
