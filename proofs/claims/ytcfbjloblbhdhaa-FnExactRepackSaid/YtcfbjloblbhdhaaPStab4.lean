/- slices.SortStableFunc at pieces sorts. No condition. -/
import Derived.Test.YtcfbjloblbhdhaaPStab3
import Derived.Test.YtcfbjloblbhdhaaDFnExactRepack
namespace Go.Proofs.Ytcfbjloblbhdhaa.Eng
set_option linter.unusedVariables false
set_option linter.unusedSimpArgs false
def seg {α : Type} (l : List α) (p q : Nat) : List α := (l.take q).drop p
theorem seg_len {α : Type} {l : List α} {p q : Nat} (h : q ≤ l.length) : (seg l p q).length = q - p := by unfold seg; simp; omega
theorem seg_split {α : Type} (l : List α) {p q : Nat} (h : p ≤ q) : l = l.take p ++ seg l p q ++ l.drop q := by
  have e : l.take p ++ seg l p q = l.take q := by
    have := List.take_append_drop p (l.take q)
    rw [List.take_take, Nat.min_eq_left h] at this
    exact this
  rw [e, List.take_append_drop]
theorem seg_all {α : Type} {l : List α} {p q : Nat} (h : l.length ≤ q) : seg l p q = seg l p l.length := by unfold seg; rw [List.take_of_length_le h, List.take_length]
theorem seg_nil {α : Type} {l : List α} {p q : Nat} (h : l.length ≤ p) : seg l p q = [] := by unfold seg; exact List.drop_eq_nil_of_le (by simp; omega)
section
variable {α : Type} {l Z : List α} {a b : Nat}
theorem put_len (hab : a ≤ b) (hb : b ≤ l.length) (hZ : Z.length = b - a) : (l.take a ++ Z ++ l.drop b).length = l.length := by simp [hZ]; omega
theorem put_before (hab : a ≤ b) (hb : b ≤ l.length) {p q : Nat} (h : q ≤ a) : seg (l.take a ++ Z ++ l.drop b) p q = seg l p q := by
  unfold seg
  rw [List.append_assoc, List.take_append_of_le_length (by simp; omega), List.take_take, Nat.min_eq_left h]
theorem put_behind (hab : a ≤ b) (hb : b ≤ l.length) (hZ : Z.length = b - a) {p q : Nat} (h : b ≤ p) : seg (l.take a ++ Z ++ l.drop b) p q = seg l p q := by
  unfold seg
  rw [List.drop_take, List.drop_take]
  congr 1
  have hl : (l.take a ++ Z).length = b := by simp [hZ]; omega
  have e1 : ∀ m : List α, m.drop p = (m.drop b).drop (p - b) := fun m => by rw [List.drop_drop]; congr 1; omega
  rw [e1, e1 l]
  congr 1
  have := List.drop_left (l₁ := l.take a ++ Z) (l₂ := l.drop b)
  rwa [hl] at this
theorem put_at (hab : a ≤ b) (hb : b ≤ l.length) (hZ : Z.length = b - a) : seg (l.take a ++ Z ++ l.drop b) a b = Z := by
  unfold seg
  have hl : (l.take a ++ Z).length = b := by simp [hZ]; omega
  have ha : (l.take a).length = a := by simp; omega
  have h1 := List.take_left (l₁ := l.take a ++ Z) (l₂ := l.drop b)
  rw [hl] at h1
  rw [h1]
  have h2 := List.drop_left (l₁ := l.take a) (l₂ := Z)
  rwa [ha] at h2
theorem put_perm (hab : a ≤ b) (hp : Z.Perm (seg l a b)) : (l.take a ++ Z ++ l.drop b).Perm l := by
  conv => rhs; rw [seg_split l hab]
  exact (hp.append_left _).append_right _
end
theorem ins_at {k : Nat} (hk : K0 ≤ k) (l : List Pc) {a b : Nat} (hab : a ≤ b) (hb : b ≤ l.length) (hl : l.length ≤ 1048576) : ∃ Z, slices_insertionSortCmpFunc_impl_Piece.f k l (a : Int) (b : Int) = some (l.take a ++ Z ++ l.drop b, ()) ∧ Z.Perm (seg l a b) ∧ Srt ltP Z := by
  have hs := seg_split l hab
  obtain ⟨Z, e, h1, h2⟩ := ins_f hk (l.take a) (seg l a b) (l.drop b) (by rw [← hs]; exact hl)
  rw [← hs, seg_len hb, show (l.take a).length = a by simp; omega, show a + (b - a) = b by omega] at e
  exact ⟨Z, e, h1, h2⟩
theorem sym_at {k : Nat} (hk : K0 ≤ k) (l : List Pc) {a m b : Nat} (ham : a < m) (hmb : m < b) (hb : b ≤ l.length) (hl : l.length ≤ 1048576) :
    ∃ Z, slices_symMergeCmpFunc_impl_Piece.f k l (a : Int) (m : Int) (b : Int) = some (l.take a ++ Z ++ l.drop b, ()) ∧ Z.Perm (seg l a b) ∧ (Srt ltP (seg l a m) → Srt ltP (seg l m b) → Srt ltP Z) := by
  have hk' := hk
  unfold K0 at hk'
  have hs := seg_split l (show a ≤ m by omega)
  have hs2 : l.drop m = seg l m b ++ l.drop b := by
    have := seg_split l (show m ≤ b by omega)
    have h2 := List.take_append_drop m l
    rw [List.append_assoc] at this
    exact List.append_cancel_left (h2.trans this)
  have e0 : seg l a m ++ seg l m b = seg l a b := by
    have h1 := seg_split l (show a ≤ b by omega)
    rw [hs2, ← List.append_assoc] at hs
    have := hs.symm.trans h1
    have := List.append_cancel_right this
    rw [List.append_assoc] at this
    exact List.append_cancel_left this
  have l1 : (seg l a m).length = m - a := seg_len (by omega)
  have l2 : (seg l m b).length = b - m := seg_len hb
  have hs3 : l = l.take a ++ seg l a m ++ seg l m b ++ l.drop b := by
    conv => lhs; rw [hs, hs2]
    simp
  obtain ⟨Z, e, h1, h2⟩ := sym_f hk k (l.take a) (seg l a m) (seg l m b) (l.drop b) (by omega) (by omega) (by omega) (by rw [← hs3]; exact hl)
  rw [← hs3, l1, l2, show (l.take a).length = a by simp; omega, show a + (m - a) = m by omega, show m + (b - m) = b by omega] at e
  exact ⟨Z, e, by rw [← e0]; exact h1, h2⟩
/-- all runs of so many are in order -/
def Runs (q : Nat) (l : List Pc) : Prop := ∀ j, Srt ltP (seg l (q * j) (q * j + q))
theorem stab_f {k : Nat} (hk : K0 ≤ k) (l : List Pc) (hl : l.length ≤ 1048576) : ∃ z, slices_SortStableFunc_impl_Piece.f k l = some (z, ()) ∧ z.Perm l ∧ Srt ltP z := by
  have hk' := hk
  unfold K0 at hk'
  unfold slices_SortStableFunc_impl_Piece.f slices_stableCmpFunc_impl_Piece.f
  generalize hn : l.length = n at *
  have srt0 : Srt ltP ([] : List Pc) := List.Pairwise.nil
  rw [ln_e, hn]
  have fin : ∀ r : Option (List Pc × Unit), (∃ z, r = some (z, ()) ∧ z.Perm l ∧ Srt ltP z) → ∃ z, (bnd r fun y1 => some (y1.1, ())) = some (z, ()) ∧ z.Perm l ∧ Srt ltP z := by
    rintro r ⟨z, rfl, h⟩
    exact ⟨z, rfl, h⟩
  apply fin
  refine loop_rds (P := fun r => ∃ z, r = some (z, ()) ∧ z.Perm l ∧ Srt ltP z) (n := n / 20) (fun i c => ∃ c', c = (c', ((20 * i : Nat) : Int), ((20 * i + 20 : Nat) : Int), ()) ∧ c'.Perm l ∧ ∀ j, j < i → Srt ltP (seg c' (20 * j) (20 * j + 20))) ⟨l, rfl, List.Perm.refl _, fun j hj => by omega⟩ ?_ ?_ (by omega)
  · rintro i c rec hi ⟨c', rfl, hp, hr⟩
    have hcl : c'.length = n := by rw [hp.length_eq, hn]
    obtain ⟨Z, e, z1, z2⟩ := ins_at hk c' (a := 20 * i) (b := 20 * i + 20) (by omega) (by omega) (by omega)
    have hZ : Z.length = 20 := by rw [z1.length_eq, seg_len (by omega)]; omega
    refine ⟨_, ⟨c'.take (20 * i) ++ Z ++ c'.drop (20 * i + 20), rfl, (put_perm (by omega) z1).trans hp, fun j hj => ?_⟩, ?_⟩
    · by_cases hji : j = i
      · subst hji; rw [put_at (by omega) (by omega) (by omega)]; exact z2
      · rw [put_before (by omega) (by omega) (by omega)]; exact hr j (by omega)
    · have ha : addI .i64 ((20 * i + 20 : Nat) : Int) 20 = ((20 * (i + 1) + 20 : Nat) : Int) := by rw [addI_id (by omega)]; omega
      simp only [leI_dc]
      rw [br_pos (by omega), e, bnd_s, ha]
      rfl
  · rintro c rec ⟨c', rfl, hp, hr⟩
    have hcl : c'.length = n := by rw [hp.length_eq, hn]
    simp only [leI_dc]
    rw [br_neg (by omega)]
    obtain ⟨Z, e, z1, z2⟩ := ins_at hk c' (a := 20 * (n / 20)) (b := n) (by omega) (by omega) (by omega)
    have hZ : Z.length = n - 20 * (n / 20) := by rw [z1.length_eq, seg_len (by omega)]
    rw [e, bnd_s]
    have hp2 := (put_perm (by omega) z1).trans hp
    have hl2 := put_len (l := c') (Z := Z) (a := 20 * (n / 20)) (b := n) (by omega) (by omega) hZ
    have hr2 : Runs 20 (c'.take (20 * (n / 20)) ++ Z ++ c'.drop n) := by
      intro j
      by_cases h1 : j < n / 20
      · rw [put_before (by omega) (by omega) (by omega)]; exact hr j h1
      · by_cases h2 : j = n / 20
        · rw [seg_all (by omega), hl2, hcl, h2, put_at (by omega) (by omega) hZ]; exact z2
        · rw [seg_nil (by omega)]; exact srt0
    generalize c'.take (20 * (n / 20)) ++ Z ++ c'.drop n = c1 at *
    refine loop_msr (P := fun r => ∃ z, r = some (z, ()) ∧ z.Perm l ∧ Srt ltP z) (fun f c => ∃ (c' : List Pc) (q : Nat), c = (c', (q : Int), ()) ∧ f = n - q ∧ 0 < q ∧ q ≤ 2097152 + 40 ∧ c'.Perm l ∧ Runs q c') ?_ (f := n - 20) ⟨c1, 20, rfl, rfl, by omega, by omega, hp2, hr2⟩ (by omega)
    rintro f c rec2 ⟨c', q, rfl, rfl, hq0, hq1, hp, hr⟩
    have hcl : c'.length = n := by rw [hp.length_eq, hn]
    by_cases hqn : q < n
    case neg =>
      left
      refine ⟨c', ?_, hp, ?_⟩
      · simp only [ltI_dc]; rw [br_neg (by omega)]
      · have := hr 0
        rw [Nat.mul_zero, Nat.zero_add, seg_all (by omega)] at this
        unfold seg at this
        rwa [List.take_length, List.drop_zero] at this
    right
    have em : mulI .i64 2 (q : Int) = ((2 * q : Nat) : Int) := by rw [mulI_id (by omega)]; omega
    have em2 : mulI .i64 (q : Int) 2 = ((2 * q : Nat) : Int) := by rw [mulI_id (by omega)]; omega
    simp only [ltI_dc, leI_dc, lett_e, em, em2]
    rw [br_pos (show (q : Int) < (n : Int) by omega)]
    have hd := Nat.div_add_mod n (2 * q)
    have hm := Nat.mod_lt n (show 0 < 2 * q by omega)
    have hdl : n / (2 * q) ≤ n := Nat.div_le_self _ _
    have hle : ∀ i, i < n / (2 * q) → 2 * q * i + 2 * q ≤ n := fun i hi => by
      have := Nat.mul_le_mul_left (2 * q) (show i + 1 ≤ n / (2 * q) by omega)
      rw [Nat.mul_succ] at this
      omega
    have hblk : ∀ {i j : Nat}, j < i → 2 * q * j + 2 * q ≤ 2 * q * i := fun {i j} h => by
      have := Nat.mul_le_mul_left (2 * q) (show j + 1 ≤ i by omega)
      rwa [Nat.mul_succ] at this
    have h2i : ∀ i, q * (2 * i) = 2 * q * i := fun i => by rw [← Nat.mul_assoc, Nat.mul_comm q 2]
    have h2i1 : ∀ i, q * (2 * i + 1) = 2 * q * i + q := fun i => by rw [Nat.mul_succ, h2i]
    have hge : ∀ {i j : Nat}, 2 * i ≤ j → 2 * q * i ≤ q * j := fun {i j} h => by
      rw [← h2i]; exact Nat.mul_le_mul_left q h
    refine loop_rds (P := fun r => ∃ f' c'', f' < n - q ∧ (∃ (c3 : List Pc) (q' : Nat), c'' = (c3, (q' : Int), ()) ∧ f' = n - q' ∧ 0 < q' ∧ q' ≤ 2097152 + 40 ∧ c3.Perm l ∧ Runs q' c3) ∧ r = rec2 c'') (n := n / (2 * q)) (fun i c => ∃ c', c = (c', ((2 * q * i : Nat) : Int), ((2 * q * i + 2 * q : Nat) : Int), ()) ∧ c'.Perm l ∧ (∀ j, j < i → Srt ltP (seg c' (2 * q * j) (2 * q * j + 2 * q))) ∧ ∀ j, 2 * i ≤ j → Srt ltP (seg c' (q * j) (q * j + q))) ⟨c', by simp, hp, fun j hj => by omega, fun j _ => hr j⟩ ?_ ?_ (by omega)
    · rintro i c rec hi ⟨c', rfl, hp, h1, h2⟩
      have hcl : c'.length = n := by rw [hp.length_eq, hn]
      have hb := hle i hi
      obtain ⟨Z, e, z1, z2⟩ := sym_at hk c' (a := 2 * q * i) (m := 2 * q * i + q) (b := 2 * q * i + 2 * q) (by omega) (by omega) (by omega) (by omega)
      have hZ : Z.length = 2 * q * i + 2 * q - 2 * q * i := by rw [z1.length_eq, seg_len (by omega)]
      have s1 := h2 (2 * i) (by omega)
      have s2 := h2 (2 * i + 1) (by omega)
      rw [h2i] at s1
      rw [h2i1, show 2 * q * i + q + q = 2 * q * i + 2 * q by omega] at s2
      refine ⟨_, ⟨c'.take (2 * q * i) ++ Z ++ c'.drop (2 * q * i + 2 * q), rfl, (put_perm (by omega) z1).trans hp, fun j hj => ?_, fun j hj => ?_⟩, ?_⟩
      · by_cases hji : j = i
        · subst hji; rw [put_at (by omega) (by omega) hZ]; exact z2 s1 s2
        · rw [put_before (by omega) (by omega) (hblk (by omega))]; exact h1 j (by omega)
      · have := hge hj
        rw [Nat.mul_succ] at this
        rw [put_behind (by omega) (by omega) hZ this]; exact h2 j (by omega)
      · have e1 : addI .i64 ((2 * q * i : Nat) : Int) (q : Int) = ((2 * q * i + q : Nat) : Int) := addI_nn (by omega)
        have e2 : addI .i64 ((2 * q * i + 2 * q : Nat) : Int) ((2 * q : Nat) : Int) = ((2 * q * (i + 1) + 2 * q : Nat) : Int) := by rw [addI_nn (by omega), Nat.mul_succ]
        have e3 : ((2 * q * (i + 1) : Nat) : Int) = ((2 * q * i + 2 * q : Nat) : Int) := by rw [Nat.mul_succ]
        rw [br_pos (show ((2 * q * i + 2 * q : Nat) : Int) ≤ (n : Int) by omega), e1, e, bnd_s, e2, e3]
    · rintro c rec ⟨c', rfl, hp, h1, h2⟩
      have hcl : c'.length = n := by rw [hp.length_eq, hn]
      rw [br_neg (show ¬ ((2 * q * (n / (2 * q)) + 2 * q : Nat) : Int) ≤ (n : Int) by omega)]
      have e1 : addI .i64 ((2 * q * (n / (2 * q)) : Nat) : Int) (q : Int) = ((2 * q * (n / (2 * q)) + q : Nat) : Int) := addI_nn (by omega)
      have s1 := h2 (2 * (n / (2 * q))) (by omega)
      have s2 := h2 (2 * (n / (2 * q)) + 1) (by omega)
      rw [h2i] at s1
      rw [h2i1, show 2 * q * (n / (2 * q)) + q + q = 2 * q * (n / (2 * q)) + 2 * q by omega] at s2
      have hout : ∀ {j}, n / (2 * q) < j → n ≤ 2 * q * j := fun {j} h => by have := hblk h; omega
      rw [e1]
      generalize n / (2 * q) = i at *
      by_cases hmn : 2 * q * i + q < n
      · obtain ⟨Z, e, z1, z2⟩ := sym_at hk c' (a := 2 * q * i) (m := 2 * q * i + q) (b := n) (by omega) hmn (by omega) (by omega)
        have hZ : Z.length = n - 2 * q * i := by rw [z1.length_eq, seg_len (by omega)]
        have hl2 := put_len (l := c') (Z := Z) (a := 2 * q * i) (b := n) (by omega) (by omega) hZ
        rw [br_pos (by omega), e, bnd_s]
        refine ⟨n - 2 * q, _, by omega, ⟨c'.take (2 * q * i) ++ Z ++ c'.drop n, 2 * q, rfl, rfl, by omega, by omega, (put_perm (by omega) z1).trans hp, fun j => ?_⟩, rfl⟩
        by_cases g1 : j < i
        · rw [put_before (by omega) (by omega) (hblk g1)]; exact h1 j g1
        · by_cases g2 : j = i
          · rw [seg_all (by rw [hl2, hcl, g2]; omega), hl2, hcl, g2, put_at (by omega) (by omega) hZ]
            refine z2 s1 ?_
            rwa [seg_all (by omega), hcl] at s2
          · rw [seg_nil (by rw [hl2, hcl]; exact hout (by omega))]; exact srt0
      · rw [br_neg (by omega)]
        refine ⟨n - 2 * q, _, by omega, ⟨c', 2 * q, rfl, rfl, by omega, by omega, hp, fun j => ?_⟩, rfl⟩
        by_cases g1 : j < i
        · exact h1 j g1
        · by_cases g2 : j = i
          · rw [seg_all (by rw [hcl, g2]; omega), g2]
            rwa [seg_all (by omega)] at s1
          · rw [seg_nil (by rw [hcl]; exact hout (by omega))]; exact srt0
end Go.Proofs.Ytcfbjloblbhdhaa.Eng
