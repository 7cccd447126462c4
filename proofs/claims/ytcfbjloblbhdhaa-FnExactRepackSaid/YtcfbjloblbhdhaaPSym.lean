/- Sorted lists that are merged in place, told on lists alone. No condition. -/
import Derived.Test.YtcfbjloblbhdhaaPA
namespace Go.Proofs.Ytcfbjloblbhdhaa.Eng
set_option linter.unusedVariables false
set_option linter.unusedSimpArgs false
section
variable {α : Type} {d : α} {lt : α → α → Prop}
structure Ord (lt : α → α → Prop) : Prop where
  asymm : ∀ x y, lt x y → ¬ lt y x
  ntrans : ∀ x y z, ¬ lt y x → ¬ lt z y → ¬ lt z x
def Srt (lt : α → α → Prop) (l : List α) : Prop := l.Pairwise fun x y => ¬ lt y x
theorem rd_mid (A B : List α) (x : α) : rdP d (A ++ x :: B) A.length = x := by unfold rdP; simp
theorem set_mid (A B : List α) (x y : α) : (A ++ x :: B).set A.length y = A ++ y :: B := by rw [List.set_append_right _ _ (Nat.le_refl _), Nat.sub_self, List.set_cons_zero]
theorem rd_mid' (A B : List α) (x : α) {n : Nat} (h : n = A.length) : rdP d (A ++ x :: B) n = x := by rw [h]; exact rd_mid A B x
theorem set_mid' (A B : List α) (x y : α) {n : Nat} (h : n = A.length) : (A ++ x :: B).set n y = A ++ y :: B := by rw [h]; exact set_mid A B x y
theorem rd_mid2 (A B : List α) (x z : α) {n : Nat} (h : n = A.length + 1) : rdP d (A ++ x :: z :: B) n = z := by
  have := rd_mid' (d := d) (A ++ [x]) B z (n := n) (by simp [h])
  rwa [List.append_assoc] at this
theorem set_mid2 (A B : List α) (x z y : α) {n : Nat} (h : n = A.length + 1) : (A ++ x :: z :: B).set n y = A ++ x :: y :: B := by
  have := set_mid' (A ++ [x]) B z y (n := n) (by simp [h])
  rwa [List.append_assoc, List.append_assoc] at this
theorem last_split {l : List α} (h : 0 < l.length) : ∃ m x, l = m ++ [x] := ⟨l.dropLast, l.getLast (by intro e; rw [e] at h; simp at h), (List.dropLast_concat_getLast _).symm⟩
theorem srt_last {A : List α} {x : α} (h : Srt lt (A ++ [x])) : ∀ y ∈ A, ¬ lt x y := fun y hy => (List.pairwise_append.1 h).2.2 y hy x (by simp)
theorem srt_head {x : α} {A : List α} (h : Srt lt (x :: A)) : ∀ y ∈ A, ¬ lt y x := (List.pairwise_cons.1 h).1
theorem srt_split (O : Ord lt) {X1 X2 Y1 Y2 Z1 Z2 : List α} (hX : Srt lt (X1 ++ X2)) (hY : Srt lt (Y1 ++ Y2)) (h1 : ∀ A x y B, X1 = A ++ [x] → Y2 = y :: B → ¬ lt y x) (h2 : ∀ A y x B, Y1 = A ++ [y] → X2 = x :: B → ¬ lt x y)
    (p1 : Z1.Perm (X1 ++ Y1)) (p2 : Z2.Perm (X2 ++ Y2)) (s1 : Srt lt Z1) (s2 : Srt lt Z2) : Srt lt (Z1 ++ Z2) := by
  obtain ⟨x1, x2, x3⟩ := List.pairwise_append.1 hX
  obtain ⟨y1, y2, y3⟩ := List.pairwise_append.1 hY
  have irr : ∀ x, ¬ lt x x := fun x h => O.asymm x x h h
  have c1 : ∀ x ∈ X1, ∀ y ∈ Y2, ¬ lt y x := by
    intro x hx y hy
    obtain ⟨A, x', rfl⟩ := last_split (List.length_pos_of_mem hx)
    cases Y2 with
    | nil => cases hy
    | cons y' B =>
      have k1 := h1 A x' y' B rfl rfl
      have k2 : ¬ lt x' x := by
        rcases List.mem_append.1 hx with h | h
        · exact srt_last x1 x h
        · rw [List.mem_singleton.1 h]; exact irr _
      have k3 : ¬ lt y y' := by
        rcases List.mem_cons.1 hy with h | h
        · rw [h]; exact irr _
        · exact srt_head y2 y h
      exact O.ntrans _ _ _ (O.ntrans _ _ _ k2 k1) k3
  have c2 : ∀ y ∈ Y1, ∀ x ∈ X2, ¬ lt x y := by
    intro y hy x hx
    obtain ⟨A, y', rfl⟩ := last_split (List.length_pos_of_mem hy)
    cases X2 with
    | nil => cases hx
    | cons x' B =>
      have k1 := h2 A y' x' B rfl rfl
      have k2 : ¬ lt y' y := by
        rcases List.mem_append.1 hy with h | h
        · exact srt_last y1 y h
        · rw [List.mem_singleton.1 h]; exact irr _
      have k3 : ¬ lt x x' := by
        rcases List.mem_cons.1 hx with h | h
        · rw [h]; exact irr _
        · exact srt_head x2 x h
      exact O.ntrans _ _ _ (O.ntrans _ _ _ k2 k1) k3
  refine List.pairwise_append.2 ⟨s1, s2, fun a ha b hb => ?_⟩
  rcases List.mem_append.1 (p1.mem_iff.1 ha) with h | h <;> rcases List.mem_append.1 (p2.mem_iff.1 hb) with h' | h'
  · exact x3 a h b h'
  · exact c1 a h b h'
  · exact c2 a h b h'
  · exact y3 a h b h'
/-- one element put into a sorted list, from its front -/
theorem srt_put (O : Ord lt) {Y1 Y2 : List α} {x : α} (hY : Srt lt (Y1 ++ Y2)) (h1 : ∀ A y, Y1 = A ++ [y] → ¬ lt x y) (h2 : ∀ y B, Y2 = y :: B → ¬ lt y x) : Srt lt (Y1 ++ x :: Y2) := by
  have := srt_split O (X1 := []) (X2 := [x]) (Y1 := Y1) (Y2 := Y2) (Z1 := Y1) (Z2 := x :: Y2) (by simp [Srt]) hY (fun A y z B e _ => by simp at e) (fun A y z B e e2 => by cases e2; exact h1 A y e) (by simp) (by simp) (List.pairwise_append.1 hY).1
    (List.pairwise_cons.2 ⟨fun y hy => ?_, (List.pairwise_append.1 hY).2.1⟩)
  · exact this
  · have hs := (List.pairwise_append.1 hY).2.1
    cases Y2 with
    | nil => cases hy
    | cons y' B =>
      have k1 := h2 y' B rfl
      rcases List.mem_cons.1 hy with h | h
      · rw [h]; exact k1
      · exact O.ntrans _ _ _ k1 (srt_head hs y h)
end
end Go.Proofs.Ytcfbjloblbhdhaa.Eng
