/- Boxes on two sides: what the program and the reference compute, in plain words. No condition. -/
import Derived.Test.YtnldmnlfocigaaaIntHarness
import Derived.Test.YtnldmnlfocigaaaF62
import Derived.Test.YtnldmnlfocigaaaF19
import Derived.Test.YtnldmnlfocigaaaF64
import Derived.Test.YtnldmnlfocigaaaF63
import Derived.Test.YtnldmnlfocigaaaF17
import Derived.Test.YtnldmnlfocigaaaF18
import Derived.Test.YtnldmnlfocigaaaF20
import Derived.Test.YtnldmnlfocigaaaF61
import Derived.Test.YtnldmnlfocigaaaF16
import Derived.Test.YtnldmnlfocigaaaF23
namespace Go.Proofs.Ytnldmnlfocigaaa.F
open Go.RowKit Go.Proofs.YtnldmnlfocigaaaW.PrintWords Go.Proofs.YtnldmnlfocigaaaW.PrintLast Go.Proofs.Ytnldmnlfocigaaa.Opn
set_option linter.unusedVariables false
set_option linter.unusedSimpArgs false
theorem first_fail (n : Nat) (P : Nat → Prop) (h : ¬ ∀ j, j < n → P j) : ∃ m, m < n ∧ ¬ P m ∧ ∀ j, j < m → P j := by
  induction n with
  | zero => exact absurd (fun j hj => absurd hj (Nat.not_lt_zero _)) h
  | succ n ih =>
    by_cases hn : ∀ j, j < n → P j
    · refine ⟨n, Nat.lt_succ_self n, fun hp => h (fun j hj => ?_), hn⟩
      rcases Nat.lt_succ_iff_lt_or_eq.1 hj with h1 | rfl
      · exact hn j h1
      · exact hp
    · obtain ⟨m, h1, h2, h3⟩ := ih hn
      exact ⟨m, by omega, h2, h3⟩
theorem range_mem {l : List Int} {a b : Int} (h : ∀ x ∈ l, a ≤ x ∧ x ≤ b) (j : Nat) (hj : j < l.length) : a ≤ l.getD j 0 ∧ l.getD j 0 ≤ b := by
  rw [List.getD_eq_getElem?_getD, List.getElem?_eq_getElem hj]
  exact h _ (List.getElem_mem hj)
theorem mem_range {l : List Int} {a b : Int} (h : ∀ j, j < l.length → a ≤ l.getD j 0 ∧ l.getD j 0 ≤ b) : ∀ x ∈ l, a ≤ x ∧ x ≤ b := by
  intro x hx
  obtain ⟨j, hj, rfl⟩ := List.getElem_of_mem hx
  have := h j hj
  rwa [List.getD_eq_getElem?_getD, List.getElem?_eq_getElem hj] at this
/-- At most twelve weights, from a least one on. -/
def laid (w : List Int) (a : Int) : Prop := w.length ≤ 12 ∧ ∀ x ∈ w, a ≤ x ∧ x ≤ 2000
instance (w : List Int) (a : Int) : Decidable (laid w a) := by unfold laid; infer_instance
theorem areLaid_eq (w : List Int) (a : Int) : impl_areLaid.f w a = some (decide (laid w a)) := by
  unfold impl_areLaid.f impl_areLaid_1__slices_ContainsFunc_int_int.f
  by_cases h : (w.length : Int) ≤ 12
  · rw [if_pos h]
    simp only [Option.bind_some, Option.some.injEq]
    have h' : w.length ≤ 12 := by omega
    rw [Bool.eq_iff_iff]
    simp only [Bool.not_eq_true', List.any_eq_false, Bool.or_eq_true, decide_eq_true_eq, laid, h', true_and]
    constructor
    · intro hx x hm; have := hx x hm; omega
    · intro hx x hm; have := hx x hm; omega
  · rw [if_neg h]
    have : ¬ laid w a := fun hl => by have := hl.1; omega
    simp [this]
def sgn (b : Bool) (x : Int) : Int := if b = true then x else -x
def psum (w : List Int) (s : List Bool) : Nat → Int
  | 0 => 0
  | i + 1 => psum w s i + sgn (s.getD i false) (w.getD i 0)
theorem psum_bound (w : List Int) (s : List Bool) : ∀ i, (∀ j, j < i → -2000 ≤ w.getD j 0 ∧ w.getD j 0 ≤ 2000) → -(2000 * (i : Int)) ≤ psum w s i ∧ psum w s i ≤ 2000 * (i : Int)
  | 0, _ => by simp [psum]
  | i + 1, h => by
    have h1 := psum_bound w s i (fun j hj => h j (by omega))
    have h2 := h i (by omega)
    simp only [psum, sgn]
    split <;> omega
def SD (w : List Int) (s : List Bool) : Int := if w.length = s.length ∧ laid w (-2000) then psum w s w.length else 0
theorem SD_bound (w : List Int) (s : List Bool) : -24000 ≤ SD w s ∧ SD w s ≤ 24000 := by
  unfold SD
  split
  · rename_i h
    have := psum_bound w s w.length (fun j hj => range_mem h.2.2 j hj)
    have := h.2.1
    omega
  · omega
theorem ev_impl_SideDifference (w : List Int) (s : List Bool) (hw : w.length ≤ 1048576) (hs : s.length ≤ 1048576) : Ev (fun k => impl_SideDifference.f k w s) (SD w s) := by
  unfold impl_SideDifference.f
  simp only [areLaid_eq]
  refine Ev.ite (fun hl => Ev.bs (Ev.step (fun k => impl_SideDifference.j0.eq_2 ..) (Ev.ite (fun h => Ev.some_ ?_) (fun h => ?_)))) (fun hl => Ev.step (fun k => impl_SideDifference.j0.eq_2 ..) (Ev.pos rfl (Ev.some_ ?_)))
  · have : ¬ laid w (-2000) := by simpa using h
    unfold SD; rw [if_neg (fun h => this h.2)]
  · have hd : laid w (-2000) := by simpa using h
    have hr := fun j hj => range_mem hd.2 j hj
    have : SD w s = psum w s w.length := by unfold SD; rw [if_pos ⟨by omega, hd⟩]
    rw [this]
    refine up_state (fun k x i => impl_SideDifference.l0 k s x w (w.length : Int) i) w.length (fun i => psum w s i) _ ?_ ?_ 0 (by omega)
    · exact Ev.step (fun k => impl_SideDifference.l0.eq_2 ..) (Ev.neg (by omega) (Ev.now _))
    · intro i hi ih
      have hb := psum_bound w s i (fun j hj => hr j (by omega))
      have hx := hr i hi
      have hd1 := hd.1
      refine Ev.step (fun k => impl_SideDifference.l0.eq_2 ..) (Ev.pos (by omega) (Ev.pos (by omega) (Ev.pos (by omega) (Ev.pos (by omega) ?_))))
      simp only [rdB_nat, rd_natI, wrap_succ i (by omega)]
      have hp : psum w s (i + 1) = psum w s i + sgn (s.getD i false) (w.getD i 0) := rfl
      unfold sgn at hp
      rw [hp] at ih
      refine Ev.ite (fun c => ?_) (fun c => ?_)
      · rw [if_pos c] at ih
        rw [wrap_id (by omega) (by omega)]; exact ih
      · rw [if_neg c] at ih
        rw [wrap_id (by omega) (by omega)]; exact ih
  · unfold SD; rw [if_neg (fun h => by omega)]
theorem ev_spec_SideDifference (w : List Int) (s : List Bool) (hw : w.length ≤ 1048576) (hs : s.length ≤ 1048576) : Ev (fun k => spec_SideDifference.f k w s) (SD w s) := by
  unfold spec_SideDifference.f
  refine Ev.ite (fun hl => Ev.step (fun k => spec_SideDifference.j0.eq_2 ..) (Ev.ite (fun h => Ev.some_ ?_) (fun h => ?_))) (fun hl => Ev.step (fun k => spec_SideDifference.j0.eq_2 ..) (Ev.pos rfl (Ev.some_ ?_)))
  · have : (w.length : Int) > 12 := by simpa using h
    unfold SD; rw [if_neg (fun h => by have := h.2.1; omega)]
  · have hn : w.length ≤ 12 := by
      have : ¬ ((w.length : Int) > 12) := by simpa using h
      omega
    have step : ∀ i, i < w.length → (∀ j, j < i + 1 → -2000 ≤ w.getD j 0 ∧ w.getD j 0 ≤ 2000) → ∀ r, Ev (fun k => spec_SideDifference.l0 k w s (psum w s (i + 1)) ((i + 1 : Nat) : Int)) r → Ev (fun k => spec_SideDifference.l0 k w s (psum w s i) (i : Int)) r := by
      intro i hi hr r ih
      have hb := psum_bound w s i (fun j hj => hr j (by omega))
      have hx := hr i (by omega)
      refine Ev.step (fun k => spec_SideDifference.l0.eq_2 ..) (Ev.pos (by omega) (Ev.pos (by omega) ?_))
      simp only [rdB_nat, rd_natI, wrap_succ i (by omega), spec_l01In.f]
      rw [if_pos hx.1]
      refine Ev.bs (Ev.pos (by simpa using hx.2) (Ev.pos (by omega) ?_))
      have hp : psum w s (i + 1) = psum w s i + sgn (s.getD i false) (w.getD i 0) := rfl
      unfold sgn at hp
      rw [hp] at ih
      refine Ev.ite (fun c => ?_) (fun c => ?_)
      · rw [if_pos c] at ih
        rw [wrap_id (by omega) (by omega)]; exact ih
      · rw [if_neg c] at ih
        rw [wrap_id (by omega) (by omega)]; exact ih
    by_cases hd : ∀ j, j < w.length → (-2000 ≤ w.getD j 0 ∧ w.getD j 0 ≤ 2000)
    · have : SD w s = psum w s w.length := by unfold SD; rw [if_pos ⟨by omega, hn, mem_range hd⟩]
      rw [this]
      refine up_state (fun k x i => spec_SideDifference.l0 k w s x i) w.length (fun i => psum w s i) _ ?_ ?_ 0 (by omega)
      · exact Ev.step (fun k => spec_SideDifference.l0.eq_2 ..) (Ev.neg (by omega) (Ev.now _))
      · intro i hi ih
        exact step i hi (fun j hj => hd j (by omega)) _ ih
    · have : SD w s = 0 := by unfold SD; rw [if_neg (fun h => hd (fun j hj => range_mem h.2.2 j hj))]
      rw [this]
      obtain ⟨m, hm, hb, hlt⟩ := first_fail _ _ hd
      refine up_state (fun k x i => spec_SideDifference.l0 k w s x i) m (fun i => psum w s i) _ ?_ ?_ 0 (by omega)
      · refine Ev.step (fun k => spec_SideDifference.l0.eq_2 ..) (Ev.pos (by omega) (Ev.pos (by omega) ?_))
        simp only [rd_natI, spec_l01In.f]
        by_cases c : w.getD m 0 ≥ -2000
        · rw [if_pos c]
          exact Ev.bs (Ev.neg (fun e => by have := of_decide_eq_true e; omega) (Ev.now _))
        · rw [if_neg c]
          exact Ev.bs (Ev.neg (by simp) (Ev.now _))
      · intro i hi ih
        exact step i (by omega) (fun j hj => hlt j (by omega)) _ ih
  · unfold SD; rw [if_neg (fun h => by omega)]
/-- Whether a bit of a set is none. -/
def bz (x : Int) (j : Nat) : Bool := Go.bits .and .i64 (shr .i64 x (j : Int)) 1 == 0
def sd (n : Nat) (x : Int) : List Bool := (List.range n).map (fun i => bz x (n - 1 - i))
theorem sd_length (n : Nat) (x : Int) : (sd n x).length = n := by simp [sd]
theorem sd_get (n : Nat) (x : Int) (i : Nat) (hi : i < n) : (sd n x).getD i false = bz x (n - 1 - i) := map_range_get _ _ _ hi _
theorem ev_spec_l07Sides (n : Nat) (x : Int) (hn : n ≤ 12) : Ev (fun k => spec_l07Sides.f k (n : Int) x) (sd n x) := by
  unfold spec_l07Sides.f
  refine Ev.pos (by omega) (Ev.pos (by omega) ?_)
  have hf : List.replicate ((n : Int)).toNat false = filled (fun i => bz x (n - 1 - i)) (List.replicate n false) 0 := by rw [filled_zero]; simp
  rw [hf]
  refine up_state (fun k s i => spec_l07Sides.l0 k (n : Int) x s i) n (fun i => filled (fun i => bz x (n - 1 - i)) (List.replicate n false) i) _ ?_ ?_ 0 (by omega)
  · refine Ev.step (fun k => spec_l07Sides.l0.eq_2 ..) (Ev.neg (by omega) (Ev.some_ ?_))
    have := filled_all (fun i => bz x (n - 1 - i)) (List.replicate n false)
    simpa [sd] using this
  · intro i hi ih
    have hx : wrap64 (wrap64 ((n : Int) - 1) - (i : Int)) = ((n - 1 - i : Nat) : Int) := by
      rw [wrap_id (x := (n : Int) - 1) (by omega) (by omega), wrap_id (by omega) (by omega)]; omega
    refine Ev.step (fun k => spec_l07Sides.l0.eq_2 ..) (Ev.pos (by omega) ?_)
    simp only [hx, wrap_succ i (by omega), Int.toNat_natCast]
    refine Ev.pos (by omega) (Ev.pos (by omega) (Ev.pos (by rw [filled_length _ _ _ (by simp; omega)]; simp; omega) ?_))
    rw [← filled_set _ _ i (by simp; omega)] at ih
    exact ih
theorem ev_impl_sides (n : Nat) (x : Int) (hn : n ≤ 12) : Ev (fun k => impl_sides.f k (n : Int) x) (sd n x) := by
  unfold impl_sides.f
  have key := up_state (fun k (s : List Bool × Int) _ => impl_sides.l0 k x s.1 s.2) n (fun i => ((List.range i).map (fun i => bz x (n - 1 - i)), (n : Int) - 1 - (i : Int))) (sd n x) ?_ ?_ 0 (by omega)
  · have h1 : wrap64 ((n : Int) - 1) = (n : Int) - 1 - ((0 : Nat) : Int) := by rw [wrap_id (by omega) (by omega)]; omega
    rw [h1]
    exact key
  · exact Ev.step (fun k => impl_sides.l0.eq_2 ..) (Ev.neg (by simp only; omega) (Ev.now _))
  · intro i hi ih
    have h1 : (n : Int) - 1 - (i : Int) = ((n - 1 - i : Nat) : Int) := by omega
    have h2 : wrap64 ((n : Int) - 1 - (i : Int) - 1) = (n : Int) - 1 - ((i + 1 : Nat) : Int) := by rw [wrap_id (by omega) (by omega)]; omega
    refine Ev.step (fun k => impl_sides.l0.eq_2 ..) (Ev.pos (by simp only; omega) (Ev.pos (by simp only; omega) (Ev.pos (by simp; omega) ?_)))
    simp only [h2]
    simp only [List.range_succ, List.map_append, List.map_cons, List.map_nil] at ih
    simp only [h1]
    exact ih
/-- The amount of a difference. -/
def am (d : Int) : Int := mx d (wrap64 (-d))
theorem am_eq (d : Int) (h1 : -24000 ≤ d) (h2 : d ≤ 24000) : am d = if d < 0 then -d else d := by
  unfold am mx; rw [wrap_id (by omega) (by omega)]; split <;> split <;> omega
def DD (w : List Int) (x : Nat) : Int := am (SD w (sd w.length (x : Int)))
theorem DD_nonneg (w : List Int) (x : Nat) : 0 ≤ DD w x := by
  have := SD_bound w (sd w.length (x : Int))
  unfold DD; rw [am_eq _ this.1 this.2]; split <;> omega
/-- What 'lay' holds after so many sets. -/
def LL (w : List Int) : Nat → Int × Int
  | 0 => (-1, 0)
  | i + 1 => if (LL w i).1 < 0 then (DD w i, (i : Int)) else if DD w i < (LL w i).1 then (DD w i, (i : Int)) else LL w i
theorem LL_first (w : List Int) : ∀ i, 0 < i → ∃ b : Nat, LL w i = (DD w b, (b : Int)) ∧ b < i ∧ (∀ j, j < i → DD w b ≤ DD w j) ∧ ∀ j, j < b → DD w b < DD w j
  | 0, h => absurd h (Nat.lt_irrefl 0)
  | 1, _ => by
    refine ⟨0, by simp [LL], by omega, fun j hj => ?_, fun j hj => by omega⟩
    obtain rfl : j = 0 := by omega
    exact Int.le_refl _
  | i + 2, _ => by
    obtain ⟨b, h1, h2, h3, h4⟩ := LL_first w (i + 1) (by omega)
    have hn := DD_nonneg w b
    have he : LL w (i + 2) = if (LL w (i + 1)).1 < 0 then (DD w (i + 1), ((i + 1 : Nat) : Int)) else if DD w (i + 1) < (LL w (i + 1)).1 then (DD w (i + 1), ((i + 1 : Nat) : Int)) else LL w (i + 1) := rfl
    rw [he, h1, if_neg (by simp only; omega)]
    by_cases c : DD w (i + 1) < DD w b
    · refine ⟨i + 1, by rw [if_pos c], by omega, fun j hj => ?_, fun j hj => ?_⟩
      · by_cases e : j = i + 1
        · subst e; exact Int.le_refl _
        · have := h3 j (by omega); omega
      · have := h3 j (by omega); omega
    · refine ⟨b, by rw [if_neg c], by omega, fun j hj => ?_, h4⟩
      by_cases e : j = i + 1
      · subst e; omega
      · exact h3 j (by omega)
theorem shl_pow (n : Nat) (h : n ≤ 12) : shl .i64 1 (n : Int) = ((2 ^ n : Nat) : Int) := by
  have : ∀ n : Fin 13, shl .i64 1 (n.val : Int) = ((2 ^ n.val : Nat) : Int) := by decide
  exact this ⟨n, by omega⟩
theorem pow_small (n : Nat) (h : n ≤ 12) : 0 < 2 ^ n ∧ 2 ^ n ≤ 4096 := ⟨Nat.two_pow_pos n, by have := Nat.pow_le_pow_right (n := 2) (by omega) h; simpa using this⟩
theorem ev_lay (w : List Int) (hw : w.length ≤ 12) : Ev (fun k => impl_lay.f k w) (LL w (2 ^ w.length)) := by
  unfold impl_lay.f
  have hp := pow_small _ hw
  refine up_state (fun k (s : Int × Int) i => impl_lay.l0 k w s.1 s.2 i) (2 ^ w.length) (fun i => LL w i) _ ?_ ?_ 0 (by omega)
  · refine Ev.step (fun k => impl_lay.l0.eq_2 ..) ?_
    simp only [shl_pow _ hw]
    exact Ev.neg (by omega) (Ev.now _)
  · intro i hi ih
    refine Ev.step (fun k => impl_lay.l0.eq_2 ..) ?_
    simp only [shl_pow _ hw, wrap_succ i (by omega)]
    refine Ev.pos (by omega) (Ev.bd (ev_impl_sides _ _ hw) (Ev.bd (ev_impl_SideDifference _ _ (by omega) (by rw [sd_length]; omega)) ?_))
    have he : LL w (i + 1) = if (LL w i).1 < 0 then (DD w i, (i : Int)) else if DD w i < (LL w i).1 then (DD w i, (i : Int)) else LL w i := rfl
    rw [he] at ih
    refine Ev.ite (fun c => ?_) (fun c => Ev.ite (fun c2 => ?_) (fun c2 => ?_))
    · rw [if_pos c] at ih; exact ih
    · rw [if_neg c, if_pos (show DD w i < _ from c2)] at ih; exact ih
    · rw [if_neg c, if_neg (show ¬ DD w i < _ from c2)] at ih; exact ih
def LD (w : List Int) : Int := if laid w 0 then (LL w (2 ^ w.length)).1 else -1
def LY (w : List Int) : List Bool := if laid w 0 then sd w.length (LL w (2 ^ w.length)).2 else []
theorem ev_impl_LeastDifference (w : List Int) : Ev (fun k => impl_LeastDifference.f k w) (LD w) := by
  unfold impl_LeastDifference.f LD
  simp only [areLaid_eq]
  refine Ev.bs (Ev.ite (fun h => ?_) (fun h => ?_))
  · have hl : laid w 0 := by simpa using h
    rw [if_pos hl]
    exact Ev.bd (ev_lay w hl.1) (Ev.now _)
  · have hl : ¬ laid w 0 := by simpa using h
    rw [if_neg hl]
    exact Ev.now _
theorem ev_impl_Lay (w : List Int) : Ev (fun k => impl_Lay.f k w) (LY w) := by
  unfold impl_Lay.f LY
  simp only [areLaid_eq]
  refine Ev.bs (Ev.ite (fun h => ?_) (fun h => ?_))
  · have hl : laid w 0 := by simpa using h
    rw [if_pos hl]
    exact Ev.bd (ev_lay w hl.1) (Ev.bd (ev_impl_sides _ _ hl.1) (Ev.now _))
  · have hl : ¬ laid w 0 := by simpa using h
    rw [if_neg hl]
    exact Ev.now _
theorem bz_zero (j : Nat) : bz 0 j = true := by
  unfold bz shr
  rw [Int.zero_ediv]
  decide
def MM (w : List Int) : Nat → Int
  | 0 => psum w (sd w.length 0) w.length
  | i + 1 => mn (MM w i) (DD w i)
theorem psum0 (w : List Int) (i : Nat) (hi : i < w.length) : psum w (sd w.length 0) (i + 1) = psum w (sd w.length 0) i + w.getD i 0 := by
  simp only [psum, sgn, sd_get _ _ _ hi, bz_zero, if_true]
theorem psum0_nonneg (w : List Int) (h : laid w 0) : ∀ i, i ≤ w.length → 0 ≤ psum w (sd w.length 0) i
  | 0, _ => by simp [psum]
  | i + 1, hi => by
    rw [psum0 _ _ (by omega)]
    have := psum0_nonneg w h i (by omega)
    have := range_mem h.2 i (by omega)
    omega
theorem laid_more {w : List Int} (h : laid w 0) : laid w (-2000) := ⟨h.1, fun x hx => by have := h.2 x hx; omega⟩
theorem MM_LL (w : List Int) (h : laid w 0) : ∀ i, MM w (i + 1) = (LL w (i + 1)).1
  | 0 => by
    have h0 : MM w 0 = DD w 0 := by
      have hn := psum0_nonneg w h w.length (Nat.le_refl _)
      have hs : SD w (sd w.length ((0 : Nat) : Int)) = psum w (sd w.length 0) w.length := by
        unfold SD; rw [if_pos ⟨(sd_length _ _).symm, laid_more h⟩]; rfl
      have hb := SD_bound w (sd w.length ((0 : Nat) : Int))
      unfold DD
      rw [am_eq _ hb.1 hb.2, hs, if_neg (by omega)]
      rfl
    have h1 : MM w (0 + 1) = mn (MM w 0) (DD w 0) := rfl
    have h2 : LL w (0 + 1) = (DD w 0, 0) := by simp [LL]
    rw [h1, h2, h0]
    unfold mn
    split <;> rfl
  | i + 1 => by
    obtain ⟨b, h1, h2, h3, h4⟩ := LL_first w (i + 1) (by omega)
    have hn := DD_nonneg w b
    have ih := MM_LL w h i
    have he : LL w (i + 2) = if (LL w (i + 1)).1 < 0 then (DD w (i + 1), ((i + 1 : Nat) : Int)) else if DD w (i + 1) < (LL w (i + 1)).1 then (DD w (i + 1), ((i + 1 : Nat) : Int)) else LL w (i + 1) := rfl
    have hm : MM w (i + 2) = mn (MM w (i + 1)) (DD w (i + 1)) := rfl
    rw [he, hm, ih, h1, if_neg (by simp only; omega)]
    unfold mn
    simp only
    split <;> rfl
theorem ev_spec_LeastDifference (w : List Int) : Ev (fun k => spec_LeastDifference.f k w) (LD w) := by
  unfold spec_LeastDifference.f LD
  refine Ev.ite (fun h => ?_) (fun h => ?_)
  · rw [if_neg (fun hl => by have := hl.1; omega)]
    exact Ev.now _
  · have hn : w.length ≤ 12 := by omega
    have step : ∀ i, i < w.length → (∀ j, j < i + 1 → 0 ≤ w.getD j 0 ∧ w.getD j 0 ≤ 2000) → ∀ r, Ev (fun k => spec_LeastDifference.l0 k w (psum w (sd w.length 0) (i + 1)) ((i + 1 : Nat) : Int)) r → Ev (fun k => spec_LeastDifference.l0 k w (psum w (sd w.length 0) i) (i : Int)) r := by
      intro i hi hr r ih
      have hb := psum_bound w (sd w.length 0) i (fun j hj => by have := hr j (by omega); omega)
      have hx := hr i (by omega)
      refine Ev.step (fun k => spec_LeastDifference.l0.eq_2 ..) (Ev.pos (by omega) (Ev.pos (by omega) ?_))
      simp only [rd_natI, wrap_succ i (by omega), spec_l01In.f]
      rw [if_pos hx.1]
      refine Ev.bs (Ev.pos (by simpa using hx.2) ?_)
      rw [psum0 _ _ hi] at ih
      rw [wrap_id (by omega) (by omega)]; exact ih
    by_cases hd : ∀ j, j < w.length → (0 ≤ w.getD j 0 ∧ w.getD j 0 ≤ 2000)
    · have hl : laid w 0 := ⟨hn, mem_range hd⟩
      rw [if_pos hl]
      have hp := pow_small _ hn
      refine up_state (fun k x i => spec_LeastDifference.l0 k w x i) w.length (fun i => psum w (sd w.length 0) i) _ ?_ ?_ 0 (by omega)
      · refine Ev.step (fun k => spec_LeastDifference.l0.eq_2 ..) (Ev.neg (by omega) ?_)
        refine up_state (fun k x i => spec_LeastDifference.l1 k w x i) (2 ^ w.length) (fun i => MM w i) _ ?_ ?_ 0 (by omega)
        · refine Ev.step (fun k => spec_LeastDifference.l1.eq_2 ..) ?_
          simp only [shl_pow _ hn]
          refine Ev.neg (by omega) (Ev.some_ ?_)
          obtain ⟨m, hm⟩ : ∃ m, 2 ^ w.length = m + 1 := ⟨2 ^ w.length - 1, by omega⟩
          rw [hm]
          exact MM_LL w hl m
        · intro i hi ih
          refine Ev.step (fun k => spec_LeastDifference.l1.eq_2 ..) ?_
          simp only [shl_pow _ hn, wrap_succ i (by omega), spec_l07Amount.f]
          exact Ev.pos (by omega) (Ev.bd (ev_spec_l07Sides _ _ hn) (Ev.bd (ev_spec_SideDifference _ _ (by omega) (by rw [sd_length]; omega)) (Ev.bs ih)))
      · intro i hi ih
        exact step i hi (fun j hj => hd j (by omega)) _ ih
    · rw [if_neg (fun h => hd (fun j hj => range_mem h.2 j hj))]
      obtain ⟨m, hm, hb, hlt⟩ := first_fail _ _ hd
      refine up_state (fun k x i => spec_LeastDifference.l0 k w x i) m (fun i => psum w (sd w.length 0) i) _ ?_ ?_ 0 (by omega)
      · refine Ev.step (fun k => spec_LeastDifference.l0.eq_2 ..) (Ev.pos (by omega) (Ev.pos (by omega) ?_))
        simp only [rd_natI, spec_l01In.f]
        by_cases c : w.getD m 0 ≥ 0
        · rw [if_pos c]
          exact Ev.bs (Ev.neg (fun e => by have := of_decide_eq_true e; omega) (Ev.now _))
        · rw [if_neg c]
          exact Ev.bs (Ev.neg (by simp) (Ev.now _))
      · intro i hi ih
        exact step i (by omega) (fun j hj => hlt j (by omega)) _ ih
theorem LD_neg (w : List Int) (h : ¬ laid w 0) : LD w = -1 := by unfold LD; rw [if_neg h]
theorem LD_best (w : List Int) (h : laid w 0) : ∃ b : Nat, LL w (2 ^ w.length) = (DD w b, (b : Int)) ∧ LD w = DD w b ∧ LY w = sd w.length (b : Int) ∧ b < 2 ^ w.length ∧ (∀ j, j < 2 ^ w.length → DD w b ≤ DD w j) ∧ ∀ j, j < b → DD w b < DD w j := by
  obtain ⟨b, h1, h2, h3, h4⟩ := LL_first w (2 ^ w.length) (Nat.two_pow_pos _)
  exact ⟨b, h1, by unfold LD; rw [if_pos h, h1], by unfold LY; rw [if_pos h, h1], h2, h3, h4⟩
theorem LY_length (w : List Int) : (LY w).length ≤ 12 := by
  by_cases h : laid w 0
  · obtain ⟨b, _, _, h3, _⟩ := LD_best w h
    rw [h3, sd_length]; exact h.1
  · unfold LY; rw [if_neg h]; simp
theorem ev_spec_Lay (w : List Int) : Ev (fun k => spec_Lay.f k w) (LY w) := by
  unfold spec_Lay.f
  refine Ev.bd (ev_spec_LeastDifference w) ?_
  by_cases hl : laid w 0
  · obtain ⟨b, h1, h2, h3, h4, h5, h6⟩ := LD_best w hl
    rw [h2, h3]
    have hp := pow_small _ hl.1
    have hw := hl.1
    have hn := DD_nonneg w b
    refine Ev.neg (by omega) ?_
    refine up_loop (fun k i => spec_Lay.l0 k w (DD w b) i) b (fun _ => sd w.length (b : Int)) ?_ ?_ 0 (by omega)
    · refine Ev.step (fun k => spec_Lay.l0.eq_2 ..) ?_
      simp only [shl_pow _ hl.1, spec_l07Amount.f]
      exact Ev.pos (by omega) (Ev.bd (ev_spec_l07Sides _ _ hl.1) (Ev.bd (ev_spec_SideDifference _ _ (by omega) (by rw [sd_length]; omega)) (Ev.bs (Ev.pos rfl (Ev.now _)))))
    · intro i hi ih
      refine Ev.step (fun k => spec_Lay.l0.eq_2 ..) ?_
      simp only [shl_pow _ hl.1, wrap_succ i (by omega), spec_l07Amount.f]
      have h7 := h6 i hi
      refine Ev.pos (by omega) (Ev.bd (ev_spec_l07Sides _ _ hl.1) (Ev.bd (ev_spec_SideDifference _ _ (by omega) (by rw [sd_length]; omega)) (Ev.bs (Ev.neg (fun e => ?_) ih))))
      have : DD w i = DD w b := e
      omega
  · rw [LD_neg w hl]
    have : LY w = [] := by unfold LY; rw [if_neg hl]
    rw [this]
    exact Ev.pos (by omega) (Ev.now _)
end Go.Proofs.Ytnldmnlfocigaaa.F
