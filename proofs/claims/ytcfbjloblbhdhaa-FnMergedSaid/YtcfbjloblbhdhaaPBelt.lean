/- Belts: what the reference's functions compute, and that belts stay right. No condition. -/
import Derived.Test.YtcfbjloblbhdhaaPA
namespace Go.Proofs.Ytcfbjloblbhdhaa.Eng
set_option linter.unusedVariables false
set_option linter.unusedSimpArgs false
theorem copy_loop {α R : Type} {d : α} {k : Nat} (hk : K0 ≤ k) (l : List α) (hl : l.length ≤ 1048576) {F : (List α × Int × Unit → Option R) → List α × Int × Unit → Option R} {r : Option R}
    (hF : ∀ (i : Nat) rec, i < l.length → (l.take i).length ≤ 1048576 → F rec (l.take i, (i : Int), ()) = rec (l.take i ++ [rdP d l i], ((i + 1 : Nat) : Int), ())) (hE : ∀ rec, F rec (l, (l.length : Int), ()) = r) : loopN F k ([], 0, ()) = r := by
  unfold K0 at hk
  refine loop_run (n := l.length) (fun i => (l.take i, (i : Int), ())) (by simp) (fun i hi rec => ?_) (fun rec => by rw [List.take_length]; exact hE rec) (by omega)
  rw [hF i rec hi (by rw [List.length_take]; omega), take_s (d := d) hi]
theorem lt_t {α R : Type} {l : List α} {i : Nat} (h : i < l.length) (A B : Option R) : br (ltI (i : Int) (ln l)) A B = A := by rw [ltI_dc, ln_e, br_pos (by omega)]
theorem lt_e {α R : Type} {l : List α} (A B : Option R) : br (ltI (l.length : Int) (ln l)) A B = B := by rw [ltI_dc, ln_e, br_neg (by omega)]
abbrev BeltT := Int × Int × Bool × List Item × Unit
/-- the size of a belt's row -/
def BeltS (b : BeltT) : Prop := b.2.2.2.1.length ≤ 1048576
theorem beltP_s {b : BeltT} (h : BeltP b) : BeltS b := Nat.le_trans h.2.2.1 (by omega)
theorem br_tt {α : Type} {c : Bool} (h : c = true) (a b : Option α) : br c a b = a := by subst h; rfl
theorem br_ff {α : Type} {c : Bool} (h : c = false) (a b : Option α) : br c a b = b := by subst h; rfl
/-- a belt's first bag goes -/
noncomputable def leaveOk (b : BeltT) : Prop := BeltP b ∧ b.2.2.1 = false ∧ b.2.2.2.1 ≠ [] ∧ b.1 ≤ (rdP (0, 0, 0, ()) b.2.2.2.1 0).2.1
noncomputable def leaveM (b : BeltT) : BeltT × Int × Bool × Unit := @ite _ (leaveOk b) (Classical.propDecidable _) ((b.1, b.2.1, b.2.2.1, b.2.2.2.1.drop 1, ()), (rdP (0, 0, 0, ()) b.2.2.2.1 0).1, true, ()) (b, 0, false, ())
theorem rd_drop {α : Type} {d : α} {l : List α} (n i : Nat) : rdP d (l.drop n) i = rdP d l (n + i) := by
  unfold rdP; simp [List.getD_eq_getElem?_getD]
theorem leave_ok {b : BeltT} (h : BeltP b) : BeltP (leaveM b).1 := by
  unfold leaveM
  split
  case isFalse => exact h
  case isTrue hk =>
    obtain ⟨h1, h2, h3, h4⟩ := h
    refine ⟨h1, h2, by simp only [List.length_drop]; omega, fun i hi => ?_⟩
    simp only [List.length_drop] at hi
    obtain ⟨a1, a2, a3, a4, a5⟩ := h4 (1 + i) (by omega)
    unfold ItemP
    simp only [rd_drop]
    refine ⟨a1, a2, a3, fun j hj => a4 (1 + j) (by omega), fun h0 => ?_⟩
    have := a5 (by omega)
    rw [show 1 + (i - 1) = 1 + i - 1 by omega]
    exact this
/-- one step of a belt's items: the item that may go as far as 'most' -/
def stepI (most : Int) (x : Item) : Item := (x.1, if x.2.1 < most then x.2.1 + 1 else x.2.1, x.2.2.1, ())
def stepF (gap : Int) : Int → List Item → List Item
  | _, [] => []
  | most, x :: xs => stepI most x :: stepF gap ((stepI most x).2.1 - (stepI most x).2.2.1 - gap) xs
theorem stepF_len (g : Int) : ∀ (l : List Item) (m : Int), (stepF g m l).length = l.length
  | [], _ => rfl
  | x :: xs, m => by simp [stepF, stepF_len g xs]
theorem rd_cons {α : Type} {d x : α} {l : List α} (i : Nat) : rdP d (x :: l) (i + 1) = rdP d l i := by unfold rdP; simp
theorem rd_cons0 {α : Type} {d x : α} {l : List α} : rdP d (x :: l) 0 = x := by unfold rdP; simp
theorem stepF_0 (g m : Int) {l : List Item} (h : 0 < l.length) : rdP (0, 0, 0, ()) (stepF g m l) 0 = stepI m (rdP (0, 0, 0, ()) l 0) := by
  cases l with
  | nil => cases h
  | cons x xs => rw [stepF, rd_cons0, rd_cons0]
theorem stepF_s (g : Int) : ∀ (l : List Item) (m : Int) (i : Nat), i + 1 < l.length → rdP (0, 0, 0, ()) (stepF g m l) (i + 1) = stepI ((rdP (0, 0, 0, ()) (stepF g m l) i).2.1 - (rdP (0, 0, 0, ()) (stepF g m l) i).2.2.1 - g) (rdP (0, 0, 0, ()) l (i + 1))
  | [], _, _, h => absurd h (by simp)
  | x :: xs, m, 0, h => by
    rw [stepF, rd_cons, rd_cons, rd_cons0]
    exact stepF_0 g _ (by simpa using h)
  | x :: xs, m, i + 1, h => by
    rw [stepF, rd_cons, rd_cons, rd_cons]
    exact stepF_s g xs _ i (by simpa using h)
def stepB (b : BeltT) : BeltT := (b.1, b.2.1, b.2.2.1, stepF b.2.1 b.1 b.2.2.2.1, ())
theorem step_at {b : BeltT} (h : BeltP b) : ∀ i, i < b.2.2.2.1.length → ((rdP (0, 0, 0, ()) (stepB b).2.2.2.1 i).1 = (rdP (0, 0, 0, ()) b.2.2.2.1 i).1 ∧ (rdP (0, 0, 0, ()) (stepB b).2.2.2.1 i).2.2.1 = (rdP (0, 0, 0, ()) b.2.2.2.1 i).2.2.1) ∧ (rdP (0, 0, 0, ()) b.2.2.2.1 i).2.1 ≤ (rdP (0, 0, 0, ()) (stepB b).2.2.2.1 i).2.1 ∧ (rdP (0, 0, 0, ()) (stepB b).2.2.2.1 i).2.1 ≤ b.1 ∧
    (0 < i → (rdP (0, 0, 0, ()) (stepB b).2.2.2.1 i).2.1 ≤ (rdP (0, 0, 0, ()) (stepB b).2.2.2.1 (i - 1)).2.1 - (rdP (0, 0, 0, ()) (stepB b).2.2.2.1 (i - 1)).2.2.1 - b.2.1) := by
  intro i
  obtain ⟨h1, h2, h3, h4⟩ := h
  induction i with
  | zero =>
    intro hi
    obtain ⟨a1, a2, a3, a4, a5⟩ := h4 0 hi
    have e : rdP (0, 0, 0, ()) (stepB b).2.2.2.1 0 = stepI b.1 (rdP (0, 0, 0, ()) b.2.2.2.1 0) := stepF_0 _ _ hi
    rw [e]
    unfold stepI
    refine ⟨⟨rfl, rfl⟩, ?_, ?_, fun h => absurd h (by omega)⟩
    · dsimp only; split <;> omega
    · dsimp only; split <;> omega
  | succ i ih =>
    intro hi
    obtain ⟨⟨b1, b2⟩, b3, b4, _⟩ := ih (by omega)
    obtain ⟨a1, a2, a3, a4, a5⟩ := h4 (i + 1) hi
    obtain ⟨c1, c2, c3, c4, c5⟩ := h4 i (by omega)
    have a6 := a5 (by omega)
    rw [show i + 1 - 1 = i by omega] at a6
    have e : rdP (0, 0, 0, ()) (stepB b).2.2.2.1 (i + 1) = stepI ((rdP (0, 0, 0, ()) (stepB b).2.2.2.1 i).2.1 - (rdP (0, 0, 0, ()) (stepB b).2.2.2.1 i).2.2.1 - b.2.1) (rdP (0, 0, 0, ()) b.2.2.2.1 (i + 1)) := stepF_s _ _ _ i hi
    rw [show i + 1 - 1 = i by omega, e]
    unfold stepI
    refine ⟨⟨rfl, rfl⟩, ?_, ?_, fun _ => ?_⟩
    · dsimp only; split <;> omega
    · dsimp only; split <;> omega
    · dsimp only; split <;> omega
theorem step_ok {b : BeltT} (h : BeltP b) : BeltP (stepB b) := by
  have key := step_at h
  obtain ⟨h1, h2, h3, h4⟩ := h
  have hlen : (stepB b).2.2.2.1.length = b.2.2.2.1.length := stepF_len _ _ _
  refine ⟨h1, h2, by rw [hlen]; exact h3, fun i hi => ?_⟩
  rw [hlen] at hi
  obtain ⟨⟨b1, b2⟩, b3, b4, b5⟩ := key i hi
  obtain ⟨a1, a2, a3, a4, a5⟩ := h4 i hi
  refine ⟨by rw [b1]; exact a1, by rw [b2]; exact a2, ⟨by rw [b2]; omega, b4⟩, fun j hj => ?_, b5⟩
  rw [b1, (key j (by omega)).1.1]
  exact a4 j hj
theorem rd_app_r {α : Type} {d : α} {l m : List α} {i : Nat} (h : l.length ≤ i) : rdP d (l ++ m) i = rdP d m (i - l.length) := by
  unfold rdP; simp [List.getD_eq_getElem?_getD, List.getElem?_append_right h]
theorem rd_app_l {α : Type} {d : α} {l m : List α} {i : Nat} (h : i < l.length) : rdP d (l ++ m) i = rdP d l i := by
  unfold rdP; simp [List.getD_eq_getElem?_getD, List.getElem?_append_left h]
theorem rd_take {α : Type} {d : α} {l : List α} {n i : Nat} (h : i < n) : rdP d (l.take n) i = rdP d l i := by
  unfold rdP; simp [List.getD_eq_getElem?_getD, List.getElem?_take, h]
/-- a row that is rewritten from the front: what stands there half way -/
def half {α : Type} (l m : List α) (i : Nat) : List α := m.take i ++ l.drop i
theorem half_len {α : Type} {l m : List α} (h : m.length = l.length) (i : Nat) (hi : i ≤ l.length) : (half l m i).length = l.length := by
  simp [half]; omega
theorem half_at {α : Type} {d : α} {l m : List α} (h : m.length = l.length) {i : Nat} (hi : i < l.length) : rdP d (half l m i) i = rdP d l i := by
  have hl : (m.take i).length = i := by rw [List.length_take]; omega
  rw [half, rd_app_r (by omega), hl, rd_drop]
  congr 1; omega
theorem half_before {α : Type} {d : α} {l m : List α} (h : m.length = l.length) {i j : Nat} (hi : i ≤ l.length) (hj : j < i) : rdP d (half l m i) j = rdP d m j := by
  have hl : (m.take i).length = i := by rw [List.length_take]; omega
  rw [half, rd_app_l (by omega), rd_take hj]
theorem half_set {α : Type} {d : α} {l m : List α} (h : m.length = l.length) {i : Nat} (hi : i < l.length) : (half l m i).set i (rdP d m i) = half l m (i + 1) := by
  have hl : (m.take i).length = i := by rw [List.length_take]; omega
  unfold half
  rw [List.set_append_right _ _ (by omega), hl, Nat.sub_self, take_s (d := d) (by omega), List.append_assoc]
  congr 1
  rw [List.drop_eq_getElem_cons hi]
  rfl
theorem half_end {α : Type} {l m : List α} (h : m.length = l.length) : half l m l.length = m := by
  unfold half; rw [← h, List.take_length, h, List.drop_length, List.append_nil]
/-- the room behind a belt's last item -/
noncomputable def freeM (b : BeltT) : Int := @ite _ (BeltP b) (Classical.propDecidable _) (if b.2.2.2.1.length = 0 then b.1 else maxI 0 ((rdP (0, 0, 0, ()) b.2.2.2.1 (b.2.2.2.1.length - 1)).2.1 - (rdP (0, 0, 0, ()) b.2.2.2.1 (b.2.2.2.1.length - 1)).2.2.1 - b.2.1)) (-1)
noncomputable def enterOk (b : BeltT) (bag size : Int) : Prop := BeltP b ∧ 1 ≤ bag ∧ (1 ≤ size ∧ size ≤ 60) ∧ b.2.2.2.1.length < 40 ∧ size ≤ freeM b ∧ ∀ i, i < b.2.2.2.1.length → (rdP (0, 0, 0, ()) b.2.2.2.1 i).1 ≠ bag
noncomputable def enterM (b : BeltT) (bag size : Int) : BeltT × Bool × Unit := @ite _ (enterOk b bag size) (Classical.propDecidable _) ((b.1, b.2.1, b.2.2.1, b.2.2.2.1 ++ [(bag, size, size, ())], ()), true, ()) (b, false, ())
theorem enter_ok {b : BeltT} {bag size : Int} (h : BeltP b) : BeltP (enterM b bag size).1 := by
  unfold enterM
  split
  case isFalse => exact h
  case isTrue hk =>
    obtain ⟨_, a1, a2, a3, a4, a5⟩ := hk
    have hfr := a4
    rw [freeM, if_pos h] at hfr
    obtain ⟨h1, h2, h3, h4⟩ := h
    refine ⟨h1, h2, by simp only [List.length_append, List.length_singleton]; omega, fun i hi => ?_⟩
    simp only [List.length_append, List.length_singleton] at hi
    by_cases hi2 : i < b.2.2.2.1.length
    · obtain ⟨b1, b2, b3, b4, b5⟩ := h4 i hi2
      unfold ItemP
      simp only [rd_app_l hi2]
      refine ⟨b1, b2, b3, fun j hj => ?_, fun h0 => ?_⟩
      · rw [rd_app_l (by omega)]; exact b4 j hj
      · rw [rd_app_l (by omega)]; exact b5 h0
    · obtain rfl : i = b.2.2.2.1.length := by omega
      have e : rdP (0, 0, 0, ()) (b.2.2.2.1 ++ [((bag, size, size, ()) : Item)]) b.2.2.2.1.length = (bag, size, size, ()) := by
        rw [rd_app_r (Nat.le_refl _), Nat.sub_self, rd_cons0]
      unfold ItemP
      simp only [e]
      refine ⟨a1, a2, ⟨Int.le_refl _, ?_⟩, fun j hj => ?_, fun h0 => ?_⟩
      · by_cases h0 : b.2.2.2.1.length = 0
        · rw [if_pos h0] at hfr; exact hfr
        · rw [if_neg h0] at hfr
          obtain ⟨b1, b2, b3, b4, b5⟩ := h4 (b.2.2.2.1.length - 1) (by omega)
          unfold maxI at hfr
          split at hfr <;> omega
      · rw [rd_app_l hj]; exact a5 j hj
      · rw [if_neg (by omega)] at hfr
        rw [rd_app_l (by omega)]
        unfold maxI at hfr
        split at hfr <;> omega
end Go.Proofs.Ytcfbjloblbhdhaa.Eng
