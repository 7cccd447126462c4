/- No way to lay boxes on two sides is more even than Lay's, and of those as even none comes ahead of it: the pure statement. No condition. -/
import Derived.Test.YtnldmnlfocigaaaStFnEverySides
import Derived.Test.YtnldmnlfocigaaaLoadSides
namespace Go.Proofs.Ytnldmnlfocigaaa.Pure
open Go.RowKit Go.Proofs.YtnldmnlfocigaaaW.PrintWords Go.Proofs.Ytnldmnlfocigaaa.Opn Go.Proofs.Ytnldmnlfocigaaa.F
theorem bz_bit (x : Nat) (hx : x < 4096) (j : Nat) (hj : j ≤ 12) : bz (x : Int) j = !x.testBit j := by
  have h1 : shr .i64 (x : Int) (j : Int) = ((x / 2 ^ j : Nat) : Int) := by
    unfold shr
    rw [Int.toNat_natCast, Nat.min_eq_left (by show j ≤ 64; omega)]
    simp
  have hy : x / 2 ^ j < 4096 := Nat.lt_of_le_of_lt (Nat.div_le_self _ _) hx
  unfold bz
  rw [h1, Nat.testBit_eq_decide_div_mod_eq]
  generalize x / 2 ^ j = y at hy
  have h2 : Go.bits .and .i64 (y : Int) 1 = ((y % 2 : Nat) : Int) := by
    have h3 : (BitVec.ofInt 64 (y : Int) &&& BitVec.ofInt 64 1).toNat = y % 2 := by
      rw [BitVec.toNat_and]
      have : (BitVec.ofInt 64 (y : Int)).toNat = y := by
        rw [BitVec.toNat_ofInt]; omega
      rw [this]
      exact Nat.and_one_is_mod y
    show IntKind.i64.wrap (((BitVec.ofInt 64 (y : Int) &&& BitVec.ofInt 64 1).toNat : Nat) : Int) = _
    rw [h3]
    rcases Nat.mod_two_eq_zero_or_one y with h | h <;> rw [h] <;> decide
  rw [h2]
  rcases Nat.mod_two_eq_zero_or_one y with h | h <;> simp [h]
/-- The number of a way to lay. -/
def num : List Bool → Nat
  | [] => 0
  | b :: bs => (if b = true then 0 else 2 ^ bs.length) + num bs
theorem num_lt : ∀ l, num l < 2 ^ l.length
  | [] => by simp [num]
  | b :: bs => by
    have := num_lt bs
    simp only [num, List.length_cons, Nat.pow_succ]
    split <;> omega
theorem num_bit : ∀ (l : List Bool) (i : Nat), i < l.length → (num l).testBit (l.length - 1 - i) = !(l.getD i false)
  | [], i, h => absurd h (Nat.not_lt_zero _)
  | b :: bs, 0, _ => by
    have hl := num_lt bs
    have hf : (num bs).testBit bs.length = false := Nat.testBit_lt_two_pow hl
    simp only [num, List.length_cons, List.getD_cons_zero, Nat.add_sub_cancel, Nat.sub_zero]
    cases b with
    | true => simpa using hf
    | false =>
      rw [if_neg (by simp), Nat.testBit_two_pow_add_eq, hf]
  | b :: bs, i + 1, h => by
    have h' : i < bs.length := by simpa using h
    have ih := num_bit bs i h'
    have hi : (b :: bs).length - 1 - (i + 1) = bs.length - 1 - i := by simp only [List.length_cons]; omega
    rw [hi, List.getD_cons_succ, ← ih]
    simp only [num]
    cases b with
    | true => simp
    | false => rw [if_neg (by simp), Nat.testBit_two_pow_add_gt (by omega)]
theorem sd_num (s : List Bool) (hs : s.length ≤ 12) : sd s.length (num s : Int) = s := by
  have hn := num_lt s
  have hp := pow_small _ hs
  apply List.ext_getElem
  · simp [sd_length]
  · intro i h1 h2
    have h3 := sd_get s.length (num s : Int) i h2
    rw [bz_bit _ (by omega) _ (by omega), num_bit s i h2, Bool.not_not] at h3
    simpa [List.getD_eq_getElem?_getD, List.getElem?_eq_getElem h1, List.getElem?_eq_getElem h2] using h3
theorem num_lex : ∀ (l1 l2 : List Bool), l1.length = l2.length → ∀ m, m < l1.length → (∀ i, i < m → l1.getD i false = l2.getD i false) → l1.getD m false = false → l2.getD m false = true → num l2 < num l1
  | [], _, _, m, h, _, _, _ => absurd h (Nat.not_lt_zero _)
  | _ :: _, [], hl, _, _, _, _, _ => by simp at hl
  | b :: bs, c :: cs, hl, 0, _, _, h1, h2 => by
    simp only [List.getD_cons_zero] at h1 h2
    subst h1 h2
    have hlen : bs.length = cs.length := by simpa using hl
    have := num_lt cs
    rw [← hlen] at this
    simp only [num]
    rw [if_pos trivial, if_neg (by simp)]
    omega
  | b :: bs, c :: cs, hl, m + 1, hm, he, h1, h2 => by
    have hlen : bs.length = cs.length := by simpa using hl
    have h0 := he 0 (by omega)
    simp only [List.getD_cons_zero] at h0
    simp only [List.getD_cons_succ] at h1 h2
    have ih := num_lex bs cs hlen m (by simpa using hm) (fun i hi => by simpa using he (i + 1) (by omega)) h1 h2
    simp only [num]
    rw [h0, hlen]
    omega
theorem num_sd (n b : Nat) (hn : n ≤ 12) (hb : b < 2 ^ n) : num (sd n (b : Int)) = b := by
  have hp := pow_small _ hn
  have hl := num_lt (sd n (b : Int))
  rw [sd_length] at hl
  apply Nat.eq_of_testBit_eq
  intro j
  by_cases hj : j < n
  · have h1 := num_bit (sd n (b : Int)) (n - 1 - j) (by rw [sd_length]; omega)
    rw [sd_length, sd_get _ _ _ (by omega), show n - 1 - (n - 1 - j) = j by omega, bz_bit _ (by omega) _ (by omega), Bool.not_not] at h1
    exact h1
  · have hpj : 2 ^ n ≤ 2 ^ j := Nat.pow_le_pow_right (by omega) (by omega)
    rw [Nat.testBit_lt_two_pow (Nat.lt_of_lt_of_le hl hpj), Nat.testBit_lt_two_pow (Nat.lt_of_lt_of_le hb hpj)]
theorem first_left (n b t m : Nat) (hn : n ≤ 12) (hb : b < 2 ^ n) (ht : t < 2 ^ n) (hbt : b ≤ t) (hm : m < n) (hd : (sd n (b : Int)).getD m false ≠ (sd n (t : Int)).getD m false)
    (he : ∀ i, i < m → (sd n (b : Int)).getD i false = (sd n (t : Int)).getD i false) : (sd n (b : Int)).getD m false = true := by
  cases hbm : (sd n (b : Int)).getD m false with
  | true => rfl
  | false =>
    have htm : (sd n (t : Int)).getD m false = true := by
      cases h : (sd n (t : Int)).getD m false with
      | true => rfl
      | false => rw [hbm, h] at hd; exact absurd rfl hd
    have := num_lex _ _ (by rw [sd_length, sd_length]) m (by rw [sd_length]; exact hm) he hbm htm
    rw [num_sd n b hn hb, num_sd n t hn ht] at this
    omega
theorem FnEverySides : laws_FnEverySides.Pure := by
  rintro w s ⟨hw, _⟩ ⟨hs, _⟩
  refine Ev.rounds ?_
  unfold laws_FnEverySides.f
  refine Ev.ite (fun hl => ?_) (fun _ => Ev.step (fun k => laws_FnEverySides.j0.eq_2 ..) (Ev.pos rfl (Ev.now _)))
  refine Ev.bd (ev_spec_LeastDifference w) (Ev.step (fun k => laws_FnEverySides.j0.eq_2 ..) ?_)
  by_cases hd : laid w 0
  · obtain ⟨b, h1, h2, h3, h4, h5, h6⟩ := LD_best w hd
    have hn := DD_nonneg w b
    have hlen : s.length = w.length := by omega
    have hs12 : s.length ≤ 12 := by have := hd.1; omega
    have hp := pow_small _ hd.1
    have hb := SD_bound w s
    have hsd := sd_num s hs12
    rw [hlen] at hsd
    have hnl := num_lt s
    rw [hlen] at hnl
    have hDs : am (SD w s) = DD w (num s) := by unfold DD; rw [hsd]
    rw [h2]
    have key : ∀ x x', Ev (fun k => laws_FnEverySides.j1 k w s x (LY w) x' false) true → Ev (fun k => laws_FnEverySides.j1 k w s x (LY w) x' false) true := fun _ _ h => h
    refine Ev.neg (by simp; omega) (Ev.bd (ev_impl_LeastDifference w) (Ev.bd (ev_impl_Lay w) (Ev.pos (by rw [h3, sd_length]) (Ev.bd (ev_impl_SideDifference w s (by omega) (by omega)) (Ev.bd (ev_impl_SideDifference w (LY w) (by omega) (by rw [h3, sd_length]; omega)) (Ev.bd (ev_spec_SideDifference w s (by omega) (by omega)) (Ev.pos rfl (Ev.pos (by rw [h2, h3]; rfl) ?_))))))))
    have h7 := h5 (num s) hnl
    have hcmp : decide (LD w > mx (SD w s) (wrap64 (-SD w s))) = false := decide_eq_false (by rw [h2]; show ¬ DD w b > am (SD w s); rw [hDs]; omega)
    rw [hcmp]
    refine Ev.step (fun k => laws_FnEverySides.j1.eq_2 ..) (Ev.neg (by simp) ?_)
    have bd3 : ∀ i x, x = false → Ev (fun k => laws_FnEverySides.j3 k w s (LD w) (LY w) (SD w s) i x) true := fun i x e => Ev.step (fun k => laws_FnEverySides.j3.eq_2 ..) (Ev.neg (by rw [e]; simp) (Ev.now _))
    by_cases ha : LD w = mx (SD w s) (wrap64 (-SD w s))
    · have hba : b ≤ num s := by
        by_cases hlt : num s < b
        · have h8 := h6 _ hlt
          rw [h2] at ha
          have : DD w b = am (SD w s) := ha
          rw [hDs] at this
          omega
        · omega
      have step : ∀ i, i < w.length → (LY w).getD i false = s.getD i false → Ev (fun k => laws_FnEverySides.l0 k w s (LD w) (LY w) (SD w s) ((i + 1 : Nat) : Int)) true → Ev (fun k => laws_FnEverySides.l0 k w s (LD w) (LY w) (SD w s) (i : Int)) true := by
        intro i hi he ih
        refine Ev.step (fun k => laws_FnEverySides.l0.eq_2 ..) (Ev.pos (by omega) (Ev.step (fun k => laws_FnEverySides.j3.eq_2 ..) (Ev.pos (by simpa using ha) (Ev.pos (by omega) (Ev.pos (by rw [h3, sd_length]; omega) (Ev.pos (by omega) (Ev.neg (by rw [rdB_nat, rdB_nat, he]; simp) ?_)))))))
        simp only [wrap_succ i (by omega)]
        exact ih
      by_cases hall : ∀ j, j < w.length → (LY w).getD j false = s.getD j false
      · refine up_loop (fun k i => laws_FnEverySides.l0 k w s (LD w) (LY w) (SD w s) i) w.length (fun _ => true) ?_ ?_ 0 (by omega)
        · exact Ev.step (fun k => laws_FnEverySides.l0.eq_2 ..) (Ev.neg (by omega) (bd3 _ _ rfl))
        · intro i hi ih
          exact step i hi (hall i hi) ih
      · obtain ⟨m, hm, hne, hlt⟩ := first_fail _ _ hall
        refine up_loop (fun k i => laws_FnEverySides.l0 k w s (LD w) (LY w) (SD w s) i) m (fun _ => true) ?_ ?_ 0 (by omega)
        · have hT : (LY w).getD m false = true := by
            rw [h3]
            refine first_left w.length b (num s) m hd.1 h4 hnl hba hm ?_ ?_
            · rw [hsd, ← h3]; exact hne
            · intro i hi; rw [hsd, ← h3]; exact hlt i hi
          refine Ev.step (fun k => laws_FnEverySides.l0.eq_2 ..) (Ev.pos (by omega) (Ev.step (fun k => laws_FnEverySides.j3.eq_2 ..) (Ev.pos (by simpa using ha) (Ev.pos (by omega) (Ev.pos (by rw [h3, sd_length]; omega) (Ev.pos (by omega) (Ev.pos (by rw [rdB_nat, rdB_nat]; simpa using hne) (Ev.some_ (by rw [rdB_nat]; exact hT)))))))))
        · intro i hi ih
          exact step i (by omega) (hlt i hi) ih
    · have hz : (LD w == mx (SD w s) (wrap64 (-SD w s))) = false := by simpa using ha
      refine Ev.step (fun k => laws_FnEverySides.l0.eq_2 ..) (Ev.ite (fun _ => bd3 _ _ hz) (fun _ => bd3 _ _ rfl))
  · rw [LD_neg w hd]
    exact Ev.pos (by decide) (Ev.now _)
end Go.Proofs.Ytnldmnlfocigaaa.Pure
