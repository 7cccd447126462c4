/- Whether boxes are right: what the program and the reference compute. No condition. -/
import Derived.Test.YtnldmnlfocigaaaLimBase
import Derived.Test.YtnldmnlfocigaaaF42
import Derived.Test.YtnldmnlfocigaaaF43
namespace Go.Proofs.Ytnldmnlfocigaaa.F
open Go.RowKit Go.Proofs.YtnldmnlfocigaaaW.PrintWords Go.Proofs.YtnldmnlfocigaaaW.PrintLast Go.Proofs.Ytnldmnlfocigaaa.Opn
set_option linter.unusedVariables false
set_option linter.unusedSimpArgs false
def fresh : List Int → List Int → Bool
  | _, [] => true
  | s, y :: ys => !(s.contains y) && fresh (s ++ [y]) ys
theorem fresh_app : ∀ (a s b : List Int), fresh s (a ++ b) = (fresh s a && fresh (s ++ a) b)
  | [], s, b => by simp [fresh]
  | y :: ys, s, b => by
    rw [List.cons_append, fresh, fresh, fresh_app ys, Bool.and_assoc, List.append_assoc, List.singleton_append]
theorem fresh_nodup : ∀ (a s : List Int), s.Nodup → fresh s a = true → (s ++ a).Nodup
  | [], s, h, _ => by simpa using h
  | y :: ys, s, h, hf => by
    rw [fresh, Bool.and_eq_true, Bool.not_eq_true'] at hf
    have hy : y ∉ s := by
      intro hm
      rw [List.contains_iff_mem.2 hm] at hf
      exact absurd hf.1 (by simp)
    have hs : (s ++ [y]).Nodup := by
      rw [List.nodup_append]
      exact ⟨h, by simp, fun a ha b hb => by rw [List.mem_singleton.1 hb]; exact fun e => hy (e ▸ ha)⟩
    have := fresh_nodup ys (s ++ [y]) hs hf.2
    rwa [List.append_assoc, List.singleton_append] at this
theorem first_eq (l : List Int) (y : Int) : (y ∉ l ∧ ∀ j, j < l.length → l.getD j 0 ≠ y) ∨ (y ∈ l ∧ ∃ m, m < l.length ∧ l.getD m 0 = y ∧ ∀ j, j < m → l.getD j 0 ≠ y) := by
  by_cases h : ∀ j, j < l.length → l.getD j 0 ≠ y
  · refine .inl ⟨fun hm => ?_, h⟩
    obtain ⟨j, hj, rfl⟩ := List.getElem_of_mem hm
    exact h j hj (by rw [List.getD_eq_getElem?_getD, List.getElem?_eq_getElem hj]; rfl)
  · obtain ⟨m, h1, h2, h3⟩ := first_fail' _ _ h
    have h2' : l.getD m 0 = y := Decidable.not_not.1 h2
    exact .inr ⟨by rw [← h2']; exact getD_mem l 0 m h1, m, h1, h2', h3⟩
theorem ev_l03Has (l : List Int) (y : Int) (hl : l.length ≤ 1048576) : Ev (fun k => spec_l03Has.f k l y) (l.contains y) := by
  unfold spec_l03Has.f
  have step : ∀ i, i < l.length → l.getD i 0 ≠ y → ∀ r, Ev (fun k => spec_l03Has.l0 k l y ((i + 1 : Nat) : Int)) r → Ev (fun k => spec_l03Has.l0 k l y (i : Int)) r := by
    intro i hi hne r ih
    refine Ev.step (fun k => spec_l03Has.l0.eq_2 ..) (Ev.pos (by omega) (Ev.pos (by omega) ?_))
    simp only [rd_natI, wrap_succ i (by omega)]
    exact Ev.neg hne ih
  rcases first_eq l y with ⟨h, hall⟩ | ⟨h, m, hm, hy, hlt⟩
  · rw [show l.contains y = false from by simpa using h]
    refine up_loop (fun k i => spec_l03Has.l0 k l y i) l.length (fun _ => false) ?_ (fun i hi ih => step i hi (hall i hi) _ ih) 0 (by omega)
    exact Ev.step (fun k => spec_l03Has.l0.eq_2 ..) (Ev.neg (by omega) (Ev.now _))
  · rw [show l.contains y = true from by simpa using h]
    refine up_loop (fun k i => spec_l03Has.l0 k l y i) m (fun _ => true) ?_ (fun i hi ih => step i (by omega) (hlt i hi) _ ih) 0 (by omega)
    refine Ev.step (fun k => spec_l03Has.l0.eq_2 ..) (Ev.pos (by omega) (Ev.pos (by omega) ?_))
    simp only [rd_natI]
    exact Ev.pos hy (Ev.now _)
theorem ev_Contains (l : List Int) (y : Int) (hl : l.length ≤ 1048576) : Ev (fun k => slices_Contains_int_int.f k l y) (l.contains y) := by
  unfold slices_Contains_int_int.f slices_Index_int_int.f
  have step : ∀ i, i < l.length → l.getD i 0 ≠ y → ∀ r, Ev (fun k => slices_Index_int_int.l0 k l y (l.length : Int) ((i + 1 : Nat) : Int)) r → Ev (fun k => slices_Index_int_int.l0 k l y (l.length : Int) (i : Int)) r := by
    intro i hi hne r ih
    refine Ev.step (fun k => slices_Index_int_int.l0.eq_2 ..) (Ev.pos (by omega) (Ev.pos (by omega) (Ev.pos (by omega) ?_)))
    simp only [rd_natI, wrap_succ i (by omega)]
    exact Ev.neg (fun e => hne e.symm) ih
  rcases first_eq l y with ⟨h, hall⟩ | ⟨h, m, hm, hy, hlt⟩
  · rw [show l.contains y = false from by simpa using h]
    refine Ev.bd (a := -1) (up_loop (fun k i => slices_Index_int_int.l0 k l y (l.length : Int) i) l.length (fun _ => -1) ?_ (fun i hi ih => step i hi (hall i hi) _ ih) 0 (by omega)) (Ev.now _)
    exact Ev.step (fun k => slices_Index_int_int.l0.eq_2 ..) (Ev.neg (by omega) (Ev.now _))
  · rw [show l.contains y = true from by simpa using h]
    refine Ev.bd (a := (m : Int)) (up_loop (fun k i => slices_Index_int_int.l0 k l y (l.length : Int) i) m (fun _ => (m : Int)) ?_ (fun i hi ih => step i (by omega) (hlt i hi) _ ih) 0 (by omega)) (Ev.some_ (decide_eq_true (by omega)))
    refine Ev.step (fun k => slices_Index_int_int.l0.eq_2 ..) (Ev.pos (by omega) (Ev.pos (by omega) (Ev.pos (by omega) ?_)))
    simp only [rd_natI]
    exact Ev.pos hy.symm (Ev.now _)
/-- The piece of a bag. -/
def pieceOf (l : List Pc) (y : Int) : Option Pc := l.find? (fun x => x.f0 == y)
def hit (l : List Pc) (c : Int) (y : Int) : Bool := match pieceOf l y with | some x => x.f2 == c | none => false
def wt (l : List Pc) (y : Int) : Int := match pieceOf l y with | some x => x.f1 | none => 0
def wsb (l : List Pc) (ys : List Int) : Int := (ys.map (wt l)).sum
theorem wsb_cons (l : List Pc) (y : Int) (ys : List Int) : wsb l (y :: ys) = wt l y + wsb l ys := by simp [wsb]
theorem pieceOf_some {l : List Pc} {y : Int} {x : Pc} (h : pieceOf l y = some x) : x ∈ l ∧ x.f0 = y := ⟨List.mem_of_find?_eq_some h, by simpa using List.find?_some h⟩
theorem wt_bound {l : List Pc} (hl : PP l) (y : Int) : 0 ≤ wt l y ∧ wt l y ≤ 60 := by
  unfold wt
  cases h : pieceOf l y with
  | none => simp
  | some x =>
    have := PP_mem hl x (pieceOf_some h).1
    exact ⟨by have := this.2.1; simp only; omega, this.2.2.1⟩
theorem find_idx (l : List Pc) (y : Int) : (pieceOf l y = none ∧ fidx (fun x => x.f0 == y) l = -1) ∨ ∃ (m : Nat) (x : Pc), m < l.length ∧ pieceOf l y = some x ∧ l.getD m z80 = x ∧ fidx (fun x => x.f0 == y) l = (m : Int) ∧ x.f0 = y ∧ ∀ j, j < m → (l.getD j z80).f0 ≠ y := by
  by_cases h : ∀ j, j < l.length → (l.getD j z80).f0 ≠ y
  · refine .inl ⟨?_, fidx_miss _ l z80 (fun j hj => by simpa using h j hj)⟩
    unfold pieceOf
    rw [List.find?_eq_none]
    intro x hx
    obtain ⟨j, hj, rfl⟩ := List.getElem_of_mem hx
    have := h j hj
    rw [List.getD_eq_getElem?_getD, List.getElem?_eq_getElem hj] at this
    simpa using this
  · obtain ⟨m, h1, h2, h3⟩ := first_fail' _ _ h
    have h2' : (l.getD m z80).f0 = y := Decidable.not_not.1 h2
    refine .inr ⟨m, l.getD m z80, h1, ?_, rfl, fidx_hit _ l z80 m h1 (by simpa using h2') (fun j hj => by simpa using h3 j hj), h2', h3⟩
    unfold pieceOf
    have hd : l = l.take m ++ l.getD m z80 :: l.drop (m + 1) := by
      conv => lhs; rw [← List.take_append_drop m l]
      rw [List.drop_eq_getElem_cons h1, List.getD_eq_getElem?_getD, List.getElem?_eq_getElem h1]
      rfl
    conv => lhs; rw [hd]
    rw [List.find?_append, List.find?_eq_none.2, Option.none_or, List.find?_cons, show ((l.getD m z80).f0 == y) = true from by simpa using h2']
    intro x hx
    obtain ⟨j, hj, rfl⟩ := List.getElem_of_mem hx
    rw [List.length_take] at hj
    have := h3 j (by omega)
    rw [List.getD_eq_getElem?_getD, List.getElem?_eq_getElem (by omega), Option.getD_some] at this
    rw [List.getElem_take]
    simpa using this
/-- The reference's piece of a bag: a zero one where there is none. -/
theorem ev_l07Piece (l : List Pc) (hl : l.length ≤ 1048576) (y : Int) : Ev (fun k => spec_l07Piece.f k l y) (match pieceOf l y with | some x => (x.f0, x.f1, x.f2) | none => (0, 0, 0)) := by
  unfold spec_l07Piece.f
  have step : ∀ i, i < l.length → (l.getD i z80).f0 ≠ y → ∀ r, Ev (fun k => spec_l07Piece.l0 k l y ((i + 1 : Nat) : Int)) r → Ev (fun k => spec_l07Piece.l0 k l y (i : Int)) r := by
    intro i hi hne r ih
    refine Ev.step (fun k => spec_l07Piece.l0.eq_2 ..) (Ev.pos (by omega) (Ev.pos (by omega) ?_))
    simp only [rdP_nat, wrap_succ i (by omega)]
    exact Ev.neg hne ih
  rcases find_idx l y with ⟨h1, h2⟩ | ⟨m, x, hm, hx, hg, _, hy, hlt⟩
  · rw [h1]
    have hall : ∀ j, j < l.length → (l.getD j z80).f0 ≠ y := by
      intro j hj he
      unfold pieceOf at h1
      rw [List.find?_eq_none] at h1
      exact h1 _ (getD_mem l z80 j hj) (by simpa using he)
    refine up_loop (fun k i => spec_l07Piece.l0 k l y i) l.length (fun _ => (0, 0, 0)) ?_ (fun i hi ih => step i hi (hall i hi) _ ih) 0 (by omega)
    exact Ev.step (fun k => spec_l07Piece.l0.eq_2 ..) (Ev.neg (by omega) (Ev.now _))
  · rw [hx]
    refine up_loop (fun k i => spec_l07Piece.l0 k l y i) m (fun _ => (x.f0, x.f1, x.f2)) ?_ (fun i hi ih => step i (by omega) (hlt i hi) _ ih) 0 (by omega)
    refine Ev.step (fun k => spec_l07Piece.l0.eq_2 ..) (Ev.pos (by omega) (Ev.pos (by omega) ?_))
    simp only [rdP_nat, hg]
    exact Ev.pos hy (Ev.now _)
/-- A box that is right by itself. -/
def good (a b : Int) (l : List Pc) (x : Bx) : Bool := decide (x.f2.length ≠ 0) && (decide ((x.f2.length : Int) ≤ b) && (decide (x.f1 ≤ a) && (x.f2.all (hit l x.f0) && decide (wsb l x.f2 = x.f1))))
def bags (B : List Bx) : List Int := B.flatMap (·.f2)
def BOK (a b : Int) (l : List Pc) (B : List Bx) : Bool := decide (LO a b) && (decide (PP l) && (B.all (good a b l) && (fresh [] (bags B) && decide ((bags B).length = l.length))))
theorem drop_consI (l : List Int) (i : Nat) (hi : i < l.length) : l.drop i = l.getD i 0 :: l.drop (i + 1) := by
  rw [List.drop_eq_getElem_cons hi, List.getD_eq_getElem?_getD, List.getElem?_eq_getElem hi]; rfl
theorem drop_consB (l : List Bx) (i : Nat) (hi : i < l.length) : l.drop i = l.getD i z62 :: l.drop (i + 1) := by
  rw [List.drop_eq_getElem_cons hi, List.getD_eq_getElem?_getD, List.getElem?_eq_getElem hi]; rfl
/-- Bags that stand for pieces, none twice, are no more than the pieces. -/
def known (l : List Pc) (s : List Int) : Prop := s.Nodup ∧ ∀ y ∈ s, y ∈ l.map (·.f0)
theorem known_len {l : List Pc} {s : List Int} (h : known l s) : s.length ≤ l.length := by
  have := List.Nodup.length_le_of_subset h.1 h.2
  simpa using this
theorem known_snoc {l : List Pc} {s : List Int} {y c : Int} (h : known l s) (hn : s.contains y = false) (hh : hit l c y = true) : known l (s ++ [y]) := by
  have hy : y ∉ s := by simpa using hn
  refine ⟨?_, fun z hz => ?_⟩
  · rw [List.nodup_append]
    exact ⟨h.1, by simp, fun a ha b hb => by rw [List.mem_singleton.1 hb]; exact fun e => hy (e ▸ ha)⟩
  · rcases List.mem_append.1 hz with hz | hz
    · exact h.2 z hz
    · rw [List.mem_singleton.1 hz]
      unfold hit at hh
      cases hp : pieceOf l y with
      | none => rw [hp] at hh; cases hh
      | some x => exact List.mem_map.2 ⟨x, (pieceOf_some hp).1, (pieceOf_some hp).2⟩
end Go.Proofs.Ytnldmnlfocigaaa.F
