/- Pieces in groups: sublists by sets of bits, and the least number of groups that fit. No condition. -/
import Derived.Test.YtcfbjloblbhdhaaPLfit
namespace Go.Proofs.Ytcfbjloblbhdhaa.Eng
set_option linter.unusedVariables false
set_option linter.unusedSimpArgs false
/-- The elements of a list that a set of bits names. -/
def sub : List Pc → Nat → List Pc
  | [], _ => []
  | x :: xs, s => if s % 2 = 1 then x :: sub xs (s / 2) else sub xs (s / 2)
theorem sub_odd (x : Pc) (xs : List Pc) (s : Nat) (h : s % 2 = 1) : sub (x :: xs) s = x :: sub xs (s / 2) := by simp [sub, h]
theorem sub_even (x : Pc) (xs : List Pc) (s : Nat) (h : s % 2 = 0) : sub (x :: xs) s = sub xs (s / 2) := by simp [sub, h]
theorem sub_zero (q : List Pc) : sub q 0 = [] := by
  induction q with
  | nil => rfl
  | cons x xs ih => rw [sub_even x xs 0 rfl]; exact ih
theorem sub_full (q : List Pc) : sub q (2 ^ q.length - 1) = q := by
  induction q with
  | nil => rfl
  | cons x xs ih =>
    have h1 : 2 ^ (x :: xs).length = 2 * 2 ^ xs.length := by rw [List.length_cons, Nat.pow_succ, Nat.mul_comm]
    have h2 := Nat.two_pow_pos xs.length
    rw [sub_odd x xs _ (by omega), show (2 ^ (x :: xs).length - 1) / 2 = 2 ^ xs.length - 1 by omega, ih]
theorem sub_ne (q : List Pc) : ∀ s, s ≠ 0 → s < 2 ^ q.length → sub q s ≠ [] := by
  induction q with
  | nil => intro s h1 h2; simp at h2; omega
  | cons x xs ih =>
    intro s h1 h2
    rw [List.length_cons, Nat.pow_succ] at h2
    rcases Nat.mod_two_eq_zero_or_one s with h | h
    · rw [sub_even x xs s h]; exact ih _ (by omega) (by omega)
    · rw [sub_odd x xs s h]; simp
theorem and_iff (p s : Nat) : p &&& s = p ↔ ((p % 2 = 1 → s % 2 = 1) ∧ p / 2 &&& s / 2 = p / 2) := by
  have h2 := Nat.and_div_two (a := p) (b := s)
  have h1 := Nat.and_mod_two_eq_one (a := p) (b := s)
  constructor
  · intro h
    rw [h] at h1 h2
    exact ⟨fun hp => (h1.1 hp).2, h2.symm⟩
  · rintro ⟨ha, hb⟩
    rw [hb] at h2
    rcases Nat.mod_two_eq_zero_or_one p with hp | hp
    · have : ¬ (p &&& s) % 2 = 1 := fun h => by have := (h1.1 h).1; omega
      omega
    · have := h1.2 ⟨hp, ha hp⟩
      omega
theorem and_le {p s : Nat} (h : p &&& s = p) : p ≤ s := by rw [← h]; exact Nat.and_le_right
theorem sub_split (q : List Pc) : ∀ s p, p &&& s = p → (sub q s).Perm (sub q p ++ sub q (s - p)) := by
  induction q with
  | nil => intro s p _; exact List.Perm.refl _
  | cons x xs ih =>
    intro s p h
    obtain ⟨h1, h2⟩ := (and_iff p s).1 h
    have hle := and_le h2
    have i := ih _ _ h2
    rcases Nat.mod_two_eq_zero_or_one p with hp | hp
    · rcases Nat.mod_two_eq_zero_or_one s with hs | hs
      · rw [sub_even x xs s hs, sub_even x xs p hp, sub_even x xs (s - p) (by omega), show (s - p) / 2 = s / 2 - p / 2 by omega]
        exact i
      · rw [sub_odd x xs s hs, sub_even x xs p hp, sub_odd x xs (s - p) (by omega), show (s - p) / 2 = s / 2 - p / 2 by omega]
        exact (i.cons x).trans List.perm_middle.symm
    · have hs := h1 hp
      rw [sub_odd x xs s hs, sub_odd x xs p hp, sub_even x xs (s - p) (by omega), show (s - p) / 2 = s / 2 - p / 2 by omega]
      exact i.cons x
theorem sub_mask (q : List Pc) : ∀ s b c, (sub q s).Perm (b ++ c) → ∃ p, p &&& s = p ∧ (sub q p).Perm b ∧ (sub q (s - p)).Perm c := by
  induction q with
  | nil =>
    intro s b c h
    have h' := h.symm.eq_nil
    obtain ⟨rfl, rfl⟩ := List.append_eq_nil_iff.1 h'
    exact ⟨0, Nat.zero_and _, List.Perm.refl _, List.Perm.refl _⟩
  | cons x xs ih =>
    intro s b c h
    rcases Nat.mod_two_eq_zero_or_one s with hs | hs
    · rw [sub_even x xs s hs] at h
      obtain ⟨p, h1, h2, h3⟩ := ih _ _ _ h
      have hle := and_le h1
      refine ⟨2 * p, (and_iff _ _).2 ⟨by omega, by rw [show 2 * p / 2 = p by omega]; exact h1⟩, ?_, ?_⟩
      · rw [sub_even x xs _ (by omega), show 2 * p / 2 = p by omega]; exact h2
      · rw [sub_even x xs _ (by omega), show (s - 2 * p) / 2 = s / 2 - p by omega]; exact h3
    · rw [sub_odd x xs s hs] at h
      rcases List.mem_append.1 (h.mem_iff.1 List.mem_cons_self) with hb | hc
      · obtain ⟨b1, b2, rfl⟩ := List.append_of_mem hb
        have h' : (sub xs (s / 2)).Perm ((b1 ++ b2) ++ c) := by
          have h4 : (b1 ++ x :: b2 ++ c).Perm (x :: ((b1 ++ b2) ++ c)) := by
            simp only [List.append_assoc, List.cons_append]
            exact List.perm_middle
          exact (h.trans h4).cons_inv
        obtain ⟨p, h1, h2, h3⟩ := ih _ _ _ h'
        have hle := and_le h1
        refine ⟨2 * p + 1, (and_iff _ _).2 ⟨fun _ => hs, by rw [show (2 * p + 1) / 2 = p by omega]; exact h1⟩, ?_, ?_⟩
        · rw [sub_odd x xs _ (by omega), show (2 * p + 1) / 2 = p by omega]
          exact (h2.cons x).trans List.perm_middle.symm
        · rw [sub_even x xs _ (by omega), show (s - (2 * p + 1)) / 2 = s / 2 - p by omega]; exact h3
      · obtain ⟨c1, c2, rfl⟩ := List.append_of_mem hc
        have h' : (sub xs (s / 2)).Perm (b ++ (c1 ++ c2)) := by
          have h4 : (b ++ (c1 ++ x :: c2)).Perm (x :: (b ++ (c1 ++ c2))) := by
            rw [← List.append_assoc, ← List.append_assoc]
            exact List.perm_middle
          exact (h.trans h4).cons_inv
        obtain ⟨p, h1, h2, h3⟩ := ih _ _ _ h'
        have hle := and_le h1
        refine ⟨2 * p, (and_iff _ _).2 ⟨by omega, by rw [show 2 * p / 2 = p by omega]; exact h1⟩, ?_, ?_⟩
        · rw [sub_even x xs _ (by omega), show 2 * p / 2 = p by omega]; exact h2
        · rw [sub_odd x xs _ (by omega), show (s - 2 * p) / 2 = s / 2 - p by omega]
          exact (h3.cons x).trans List.perm_middle.symm
theorem sub_snoc (l : List Pc) (x : Pc) : ∀ s, sub (l ++ [x]) s = sub l s ++ (if (s / 2 ^ l.length) % 2 = 1 then [x] else []) := by
  induction l with
  | nil => intro s; simp [sub]
  | cons y ys ih =>
    intro s
    have h1 : s / 2 / 2 ^ ys.length = s / 2 ^ (y :: ys).length := by rw [Nat.div_div_eq_div_mul, List.length_cons, Nat.pow_succ, Nat.mul_comm]
    rw [List.cons_append]
    rcases Nat.mod_two_eq_zero_or_one s with h | h
    · rw [sub_even y _ s h, sub_even y _ s h, ih, h1]
    · rw [sub_odd y _ s h, sub_odd y _ s h, ih, h1, List.cons_append]
theorem sub_len (q : List Pc) : ∀ s, (sub q s).length ≤ q.length := by
  induction q with
  | nil => intro s; exact Nat.le_refl _
  | cons x xs ih =>
    intro s
    have := ih (s / 2)
    rcases Nat.mod_two_eq_zero_or_one s with h | h
    · rw [sub_even x xs s h]; simp only [List.length_cons]; omega
    · rw [sub_odd x xs s h]; simp only [List.length_cons]; omega
theorem sub_mem (q : List Pc) : ∀ s, ∀ x ∈ sub q s, x ∈ q := by
  induction q with
  | nil => intro s x h; exact h
  | cons y ys ih =>
    intro s x h
    rcases Nat.mod_two_eq_zero_or_one s with h' | h'
    · rw [sub_even y ys s h'] at h; exact List.mem_cons_of_mem _ (ih _ _ h)
    · rw [sub_odd y ys s h'] at h
      rcases List.mem_cons.1 h with rfl | h
      · exact List.mem_cons_self
      · exact List.mem_cons_of_mem _ (ih _ _ h)
/-- The next set below one, within another: none lies between. -/
theorem next_sub (p : Nat) : ∀ s t, p &&& s = p → t &&& s = t → t < p → t ≤ (p - 1) &&& s := by
  induction p using Nat.strongRecOn with
  | _ p ih =>
    intro s t hp ht hlt
    obtain ⟨p1, p2⟩ := (and_iff p s).1 hp
    obtain ⟨t1, t2⟩ := (and_iff t s).1 ht
    have hd := Nat.and_div_two (a := p - 1) (b := s)
    have hm := Nat.and_mod_two_eq_one (a := p - 1) (b := s)
    rcases Nat.mod_two_eq_zero_or_one p with h | h
    · have hi := ih (p / 2) (by omega) (s / 2) (t / 2) p2 t2 (by omega)
      rw [show (p - 1) / 2 = p / 2 - 1 by omega] at hd
      rcases Nat.mod_two_eq_zero_or_one t with h' | h'
      · omega
      · have := hm.2 ⟨by omega, t1 h'⟩
        omega
    · rw [show (p - 1) / 2 = p / 2 by omega, p2] at hd
      omega
theorem andnot_nat (m : Nat) : ∀ x p, x < 2 ^ m → p &&& x = p → x &&& (2 ^ m - 1 - p) = x - p := by
  induction m with
  | zero =>
    intro x p h hp
    have hx : x = 0 := by simpa using h
    subst hx
    simp
  | succ m ih =>
    intro x p h hp
    obtain ⟨p1, p2⟩ := (and_iff p x).1 hp
    have hle := and_le p2
    have hpow : 2 ^ (m + 1) = 2 * 2 ^ m := by rw [Nat.pow_succ, Nat.mul_comm]
    have hpos := Nat.two_pow_pos m
    have i := ih (x / 2) (p / 2) (by omega) p2
    have hd := Nat.and_div_two (a := x) (b := 2 ^ (m + 1) - 1 - p)
    have hm := Nat.and_mod_two_eq_one (a := x) (b := 2 ^ (m + 1) - 1 - p)
    rw [show (2 ^ (m + 1) - 1 - p) / 2 = 2 ^ m - 1 - p / 2 by omega, i] at hd
    rcases Nat.mod_two_eq_zero_or_one x with hx | hx
    · have : ¬ (x &&& (2 ^ (m + 1) - 1 - p)) % 2 = 1 := fun h => by have := (hm.1 h).1; omega
      have hp0 : p % 2 = 0 := by
        rcases Nat.mod_two_eq_zero_or_one p with h' | h'
        · exact h'
        · have := p1 h'; omega
      omega
    · rcases Nat.mod_two_eq_zero_or_one p with h' | h'
      · have := hm.2 ⟨hx, by omega⟩
        omega
      · have : ¬ (x &&& (2 ^ (m + 1) - 1 - p)) % 2 = 1 := fun h => by have := (hm.1 h).2; omega
        omega
/-- The weight of some pieces. -/
def wS (b : List Pc) : Int := (b.map (·.2.1)).sum
theorem wS_nil : wS [] = 0 := rfl
theorem wS_cons (x : Pc) (b : List Pc) : wS (x :: b) = x.2.1 + wS b := by simp [wS]
theorem wS_app (b c : List Pc) : wS (b ++ c) = wS b + wS c := by simp [wS]
theorem wS_perm {b c : List Pc} (h : b.Perm c) : wS b = wS c := by
  induction h with
  | nil => rfl
  | cons x _ ih => rw [wS_cons, wS_cons, ih]
  | swap x y l => simp only [wS_cons]; omega
  | trans _ _ i1 i2 => exact i1.trans i2
theorem wS_bound (b : List Pc) (h : ∀ x ∈ b, 0 ≤ x.2.1 ∧ x.2.1 ≤ 60) : 0 ≤ wS b ∧ wS b ≤ 60 * (b.length : Int) := by
  induction b with
  | nil => simp [wS]
  | cons x b ih =>
    have h1 := h x List.mem_cons_self
    have h2 := ih (fun y hy => h y (List.mem_cons_of_mem _ hy))
    rw [wS_cons, List.length_cons]
    omega
def fit (W C : Int) (b : List Pc) : Prop := wS b ≤ W ∧ (b.length : Int) ≤ C
theorem fit_perm {W C : Int} {b c : List Pc} (h : b.Perm c) (hf : fit W C b) : fit W C c := by
  unfold fit at *
  rw [← wS_perm h, ← h.length_eq]
  exact hf
/-- Groups that hold just these pieces, each within the limits. -/
def Pk (W C : Int) (L : List Pc) (bs : List (List Pc)) : Prop := bs.flatten.Perm L ∧ ∀ b ∈ bs, fit W C b
def Opt (W C : Int) (L : List Pc) (v : Nat) : Prop := (∃ bs, Pk W C L bs ∧ bs.length = v) ∧ ∀ bs, Pk W C L bs → v ≤ bs.length
theorem flat_mid (b1 : List (List Pc)) (b : List Pc) (b2 : List (List Pc)) : (b1 ++ b :: b2).flatten.Perm (b ++ (b1 ++ b2).flatten) := by
  simp only [List.flatten_append, List.flatten_cons]
  rw [← List.append_assoc, ← List.append_assoc]
  exact List.perm_append_comm.append_right _
theorem Opt_nil (W C : Int) : Opt W C [] 0 := ⟨⟨[], ⟨List.Perm.refl _, fun b hb => absurd hb (by simp)⟩, rfl⟩, fun _ _ => Nat.zero_le _⟩
/-- Singles, and empty groups as many as one likes. -/
theorem Pk_single (W C : Int) (hW : 60 ≤ W) (hC : 1 ≤ C) (L : List Pc) (hL : ∀ x ∈ L, x.2.1 ≤ 60) (n : Nat) (hn : L.length ≤ n) : ∃ bs, Pk W C L bs ∧ bs.length = n := by
  refine ⟨L.map (fun x => [x]) ++ List.replicate (n - L.length) [], ⟨?_, ?_⟩, by simp; omega⟩
  · rw [List.flatten_append, List.flatten_replicate_nil, List.append_nil]
    have : (L.map (fun x => [x])).flatten = L := by
      induction L with
      | nil => rfl
      | cons x xs ih => rw [List.map_cons, List.flatten_cons, ih (fun y hy => hL y (List.mem_cons_of_mem _ hy)) (by simp at hn; omega)]; rfl
    rw [this]
  · intro b hb
    rcases List.mem_append.1 hb with hb | hb
    · obtain ⟨x, hx, rfl⟩ := List.mem_map.1 hb
      have := hL x hx
      exact ⟨by simp [wS]; omega, by simp; omega⟩
    · rw [(List.mem_replicate.1 hb).2]
      exact ⟨by rw [wS_nil]; omega, by simp; omega⟩
end Go.Proofs.Ytcfbjloblbhdhaa.Eng
