/- The program's least number of groups of one class: what it computes is the least. No condition. -/
import Derived.Test.YtcfbjloblbhdhaaPXmath
import Derived.Test.YtcfbjloblbhdhaaDFnPacked
namespace Go.Proofs.Ytcfbjloblbhdhaa.Eng
set_option linter.unusedVariables false
set_option linter.unusedSimpArgs false
theorem i64w (n : Int) (h₀ : 0 ≤ n) (h₁ : n < 2 ^ 8) : Go.IntKind.i64.wrap n = n := by rw [Go.IntKind.wrap_i64]; omega
theorem and8 (a b : Nat) (ha : a < 256) (hb : b < 256) : andI .i64 (a : Int) (b : Int) = ((a &&& b : Nat) : Int) := by
  have e1 : a % 2 ^ Go.IntKind.i64.bits = a := Nat.mod_eq_of_lt (Nat.lt_of_lt_of_le ha (by decide))
  have e2 : b % 2 ^ Go.IntKind.i64.bits = b := Nat.mod_eq_of_lt (Nat.lt_of_lt_of_le hb (by decide))
  have h : a &&& b ≤ a := Nat.and_le_left
  simp only [andI, BitVec.ofInt_natCast, BitVec.toNat_and, BitVec.toNat_ofNat, e1, e2]
  exact i64w _ (by omega) (by omega)
theorem andnot8 (s p : Nat) (hs : s < 256) (hp : p &&& s = p) : andNotI .i64 (s : Int) (p : Int) = ((s - p : Nat) : Int) := by
  have hle := and_le hp
  have h1 := andnot_nat 64 s p (by omega) hp
  have e1 : s % 2 ^ Go.IntKind.i64.bits = s := Nat.mod_eq_of_lt (Nat.lt_of_lt_of_le hs (by decide))
  have e2 : p % 2 ^ Go.IntKind.i64.bits = p := Nat.mod_eq_of_lt (Nat.lt_of_lt_of_le (Nat.lt_of_le_of_lt hle hs) (by decide))
  have e3 : (2 : Nat) ^ Go.IntKind.i64.bits = 2 ^ 64 := rfl
  simp only [andNotI, BitVec.ofInt_natCast, BitVec.toNat_and, BitVec.toNat_not, BitVec.toNat_ofNat, e1, e2]
  rw [e3, h1]
  exact i64w _ (by omega) (by omega)
theorem bit8 (p i : Nat) (hp : p < 256) (hi : i < 8) : (andI .i64 (shrI .i64 (p : Int) (i : Int)) 1 = 1) ↔ (p / 2 ^ i) % 2 = 1 := by
  have h1 : shrI .i64 (p : Int) (i : Int) = ((p / 2 ^ i : Nat) : Int) := by
    unfold shrI
    rw [show min ((i : Int)).toNat Go.IntKind.i64.bits = i by rw [Int.toNat_natCast]; exact Nat.min_eq_left (by have : Go.IntKind.i64.bits = 64 := rfl; omega)]
    rw [Int.fdiv_eq_ediv_of_nonneg _ (Int.pow_nonneg (by omega))]
    simp
  have h2 : p / 2 ^ i ≤ p := Nat.div_le_self _ _
  rw [h1, show (1 : Int) = ((1 : Nat) : Int) from rfl, and8 _ _ (by omega) (by omega), Nat.and_one_is_mod]
  omega
theorem shl8 (n : Nat) (h : n ≤ 8) : shlI .i64 1 (n : Int) = ((2 ^ n : Nat) : Int) := by
  have : n = 0 ∨ n = 1 ∨ n = 2 ∨ n = 3 ∨ n = 4 ∨ n = 5 ∨ n = 6 ∨ n = 7 ∨ n = 8 := by omega
  rcases this with rfl | rfl | rfl | rfl | rfl | rfl | rfl | rfl | rfl <;> rfl
theorem pow8 (n : Nat) (h : n ≤ 8) : 2 ^ n ≤ 256 := Nat.le_trans (Nat.pow_le_pow_right (by decide) h) (by decide)
theorem mn_le (a b : Int) : minI a b ≤ a ∧ minI a b ≤ b ∧ (minI a b = a ∨ minI a b = b) := by
  unfold minI
  split
  · exact ⟨by omega, by omega, .inr rfl⟩
  · exact ⟨by omega, by omega, .inl rfl⟩
abbrev rI (l : List (Int × Unit)) (t : Nat) : Int := (rdP (0, ()) l t).1
theorem rI_set (l : List (Int × Unit)) (i j : Nat) (x : Int) : rI (l.set i (x, ())) j = if i = j ∧ j < l.length then x else rI l j := by
  unfold rI rdP
  simp only [List.getD_eq_getElem?_getD, List.getElem?_set]
  by_cases h : i = j
  · subst h
    by_cases hl : i < l.length
    · simp [hl]
    · simp [hl]
  · simp [h]
/-- what stands of the table at set s -/
structure Few (q : List Pc) (a b : Int) (s : Nat) (best : List (Int × Unit)) : Prop where
  len : best.length = 2 ^ q.length
  good : ∀ t, t < s → ∃ v : Nat, Opt a b (sub q t) v ∧ rI best t = (v : Int)
  le8 : ∀ t, rI best t ≤ 8
/-- the parts of a set above p are tried -/
structure FewP (q : List Pc) (a b : Int) (s p : Nat) (best : List (Int × Unit)) : Prop extends Few q a b s best where
  isub : p &&& s = p
  some_ : ∃ bs, Pk a b (sub q s) bs ∧ rI best s = ((bs.length : Nat) : Int)
  least : ∀ t, t &&& s = t → p < t → fit a b (sub q t) → ∀ bs, Pk a b (sub q (s - t)) bs → rI best s ≤ ((bs.length : Nat) : Int) + 1
theorem few_end {q : List Pc} {a b : Int} {s : Nat} {best : List (Int × Unit)} (hs0 : 0 < s) (hs : s < 2 ^ q.length) (h : FewP q a b s 0 best) : Few q a b (s + 1) best := by
  refine ⟨h.len, fun t ht => ?_, h.le8⟩
  by_cases hts : t < s
  · exact h.good t hts
  · obtain rfl : t = s := by omega
    obtain ⟨bs, hbs, hv⟩ := h.some_
    refine ⟨bs.length, ⟨⟨bs, hbs, rfl⟩, fun cs hcs => ?_⟩, hv⟩
    have hne := sub_ne q t (by omega) hs
    obtain ⟨b0, hb0, hbne⟩ : ∃ b0 ∈ cs, b0 ≠ [] := by
      refine Classical.byContradiction fun hno => hne ?_
      have : cs.flatten = [] := List.flatten_eq_nil_iff.2 (fun x hx => Classical.byContradiction fun hx' => hno ⟨x, hx, hx'⟩)
      exact (this ▸ hcs.1).symm.eq_nil
    obtain ⟨c1, c2, rfl⟩ := List.append_of_mem hb0
    obtain ⟨m, hm1, hm2, hm3⟩ := sub_mask q t b0 (c1 ++ c2).flatten (hcs.1.symm.trans (flat_mid c1 b0 c2))
    have hm0 : 0 < m := by
      rcases Nat.eq_zero_or_pos m with rfl | h
      · rw [sub_zero] at hm2; exact absurd hm2.symm.eq_nil hbne
      · exact h
    have := h.least m hm1 hm0 (fit_perm hm2.symm (hcs.2 b0 hb0)) (c1 ++ c2) ⟨hm3.symm, fun x hx => hcs.2 x (by simp only [List.mem_append, List.mem_cons] at hx ⊢; rcases hx with h | h; exact .inl h; exact .inr (.inr h))⟩
    rw [hv] at this
    simp only [List.length_append, List.length_cons] at this ⊢
    omega
theorem few_no {q : List Pc} {a b : Int} {s p : Nat} {best : List (Int × Unit)} (h : FewP q a b s p best) (hf : ¬ fit a b (sub q p)) : FewP q a b s ((p - 1) &&& s) best := by
  refine { h with isub := by rw [Nat.and_assoc, Nat.and_self], least := fun t ht htp hft bs hbs => ?_ }
  by_cases hc : p < t
  · exact h.least t ht hc hft bs hbs
  · have htp' : t = p := by
      rcases Nat.lt_or_ge t p with h' | h'
      · have := next_sub p s t h.isub ht h'; omega
      · omega
    subst htp'
    exact absurd hft hf
theorem few_yes {q : List Pc} {a b : Int} {s p : Nat} {best : List (Int × Unit)} (hs : s < 2 ^ q.length) (hp0 : p ≠ 0) (h : FewP q a b s p best) (hf : fit a b (sub q p)) : FewP q a b s ((p - 1) &&& s) (best.set s (minI (rI best s) (rI best (s - p) + 1), ())) := by
  have hps := and_le h.isub
  obtain ⟨v, hv, ev⟩ := h.good (s - p) (by omega)
  rw [ev]
  obtain ⟨m1, m2, m3⟩ := mn_le (rI best s) ((v : Int) + 1)
  have hlen := h.len
  have hset : ∀ t, rI (best.set s (minI (rI best s) ((v : Int) + 1), ())) t = if s = t then minI (rI best s) ((v : Int) + 1) else rI best t := by
    intro t
    rw [rI_set]
    by_cases h : s = t
    · subst h; rw [if_pos ⟨rfl, by omega⟩, if_pos rfl]
    · rw [if_neg (fun h' => h h'.1), if_neg h]
  refine ⟨⟨by rw [List.length_set]; exact hlen, fun t ht => ?_, fun t => ?_⟩, by rw [Nat.and_assoc, Nat.and_self], ?_, fun t ht htp hft bs hbs => ?_⟩
  · rw [hset, if_neg (by omega)]; exact h.good t ht
  · rw [hset]
    split
    · exact Int.le_trans m1 (h.le8 s)
    · exact h.le8 t
  · rw [hset, if_pos rfl]
    rcases m3 with m3 | m3
    · rw [m3]; exact h.some_
    · obtain ⟨⟨bs, hbs, hl⟩, _⟩ := hv
      refine ⟨sub q p :: bs, ⟨?_, fun x hx => ?_⟩, by rw [m3, List.length_cons, hl]; omega⟩
      · rw [List.flatten_cons]
        exact (hbs.1.append_left _).trans (sub_split q s p h.isub).symm
      · rcases List.mem_cons.1 hx with rfl | hx
        · exact hf
        · exact hbs.2 x hx
  · rw [hset, if_pos rfl]
    by_cases hc : p < t
    · exact Int.le_trans m1 (h.least t ht hc hft bs hbs)
    · have htp' : t = p := by
        rcases Nat.lt_or_ge t p with h' | h'
        · have := next_sub p s t h.isub ht h'; omega
        · omega
      subst htp'
      have := hv.2 bs hbs
      omega
theorem few_start {q : List Pc} {a b : Int} {s : Nat} {best : List (Int × Unit)} (hq : q.length ≤ 8) (hw : ∀ x ∈ q, 0 ≤ x.2.1 ∧ x.2.1 ≤ 60) (ha : 60 ≤ a) (hb : 1 ≤ b) (hs : s < 2 ^ q.length) (h : Few q a b s best) : FewP q a b s s (best.set s ((q.length : Int), ())) := by
  have hlen := h.len
  have hset : ∀ t, rI (best.set s ((q.length : Int), ())) t = if s = t then (q.length : Int) else rI best t := by
    intro t
    rw [rI_set]
    by_cases h : s = t
    · subst h; rw [if_pos ⟨rfl, by omega⟩, if_pos rfl]
    · rw [if_neg (fun h' => h h'.1), if_neg h]
  obtain ⟨bs, hbs, hbl⟩ := Pk_single a b ha hb (sub q s) (fun x hx => (hw x (sub_mem q s x hx)).2) q.length (sub_len q s)
  refine ⟨⟨by rw [List.length_set]; exact hlen, fun t ht => ?_, fun t => ?_⟩, Nat.and_self s, ⟨bs, hbs, by rw [hset, if_pos rfl, hbl]⟩, fun t ht hst => absurd (and_le ht) (by omega)⟩
  · rw [hset, if_neg (by omega)]; exact h.good t ht
  · rw [hset]
    split
    · omega
    · exact h.le8 t
theorem step_ex {σ R : Type} {I : Nat → σ → Prop} {f : Nat} {x : Option R} {rec : σ → Option R} (h : ∃ c', I f c' ∧ x = rec c') : ∃ f' c', f' < f + 1 ∧ I f' c' ∧ x = rec c' :=
  let ⟨c', a, b⟩ := h; ⟨f, c', Nat.lt_succ_self f, a, b⟩
theorem fewest_f {k : Nat} (hk : K0 ≤ k) (m : LimT) (q : List Pc) (hq : q.length ≤ 8) (hw : ∀ x ∈ q, 0 ≤ x.2.1 ∧ x.2.1 ≤ 60) (ha : 60 ≤ m.1 ∧ m.1 ≤ 2000) (hb : 1 ≤ m.2.1 ∧ m.2.1 ≤ 40) :
    ∃ v : Nat, Opt m.1 m.2.1 q v ∧ v ≤ 8 ∧ impl_fewest.f k m q = some ((v : Int), ()) := by
  have h256 := pow8 _ hq
  have hpos := Nat.two_pow_pos q.length
  have hsh := shl8 _ hq
  have hfN : fitN ((2 ^ q.length : Nat) : Int) = true := fitN_T (by omega)
  have heq : eqI ((2 ^ q.length : Nat) : Int) ((2 ^ q.length : Nat) : Int) = true := by rw [eqI_dc, dc_T rfl]
  have hk' := hk
  unfold K0 at hk'
  unfold impl_fewest.f
  simp only [ln_e, hsh, hfN, heq, br_t, repl_e, natI_n]
  rw [leI_dc, br_pos (by omega)]
  refine loop_msr (P := fun r => ∃ v : Nat, Opt m.1 m.2.1 q v ∧ v ≤ 8 ∧ r = some ((v : Int), ())) (fun f c => ∃ (best : List (Int × Unit)) (s : Nat), c = (best, (s : Int), ()) ∧ s + f = 2 ^ q.length ∧ 0 < s ∧ Few q m.1 m.2.1 s best) ?_ (f := 2 ^ q.length - 1) ⟨List.replicate (2 ^ q.length) (0, ()), 1, rfl, by omega, by omega, ⟨by simp, fun t ht => ?_, fun t => ?_⟩⟩ (by omega)
  · rintro f c rec ⟨best, s, rfl, hsf, hs0, h⟩
    have hlen := h.len
    cases f with
    | zero =>
      left
      obtain rfl : s = 2 ^ q.length := by omega
      obtain ⟨v, hv, ev⟩ := h.good (2 ^ q.length - 1) (by omega)
      have hv8 := h.le8 (2 ^ q.length - 1)
      rw [ev] at hv8
      rw [sub_full] at hv
      have hr : rdP (0, ()) best (2 ^ q.length - 1) = ((v : Int), ()) := by rw [← ev]
      have hsub : subI .i64 ((2 ^ q.length : Nat) : Int) 1 = ((2 ^ q.length - 1 : Nat) : Int) := subI_n1 (by omega)
      refine ⟨v, hv, by omega, ?_⟩
      simp (disch := omega) only [lett_e, bnd_s, bnd_chk, br_not, br_t, br_f, br_T, br_F, not_true_eq_false, not_false_eq_true, chk_T, chk_F, chk_eq, eqI_dc, ltI_dc, leI_dc, eqN_dc, notB_dc, andB_dc, andB_t, eqB_dc, notB_t, notB_f, inR_dc, upR_dc, ln_e, app_e, tk_e, dp_e, upd_e, repl_e, natI_n, br_pos, br_neg, addI_nat, addI_nn, subI_n1, subI_nn, fitN_T, List.length_set, List.length_append, List.length_cons, List.length_nil, hlen, hsub, hr]
    | succ f =>
      right
      have hst := few_start hq hw ha.1 hb.1 (by omega) h
      refine step_ex ?_
      dsimp only
      rw [ltI_dc, br_pos (by omega), inR_dc, br_pos (by omega), lett_e, natI_n, upd_e, lett_e]
      refine loop_msr (P := fun x => ∃ c', (∃ (best : List (Int × Unit)) (s : Nat), c' = (best, (s : Int), ()) ∧ s + f = 2 ^ q.length ∧ 0 < s ∧ Few q m.1 m.2.1 s best) ∧ x = rec c') (fun p c => ∃ best, c = (best, (p : Int), ()) ∧ FewP q m.1 m.2.1 s p best) ?_ (f := s) ⟨_, rfl, hst⟩ (by omega)
      rintro p c rec2 ⟨best, rfl, h⟩
      have hlen := h.len
      by_cases hp0 : p = 0
      · subst hp0
        left
        refine ⟨(best, ((s + 1 : Nat) : Int), ()), ⟨best, s + 1, rfl, by omega, by omega, few_end hs0 (by omega) h⟩, ?_⟩
        simp (disch := omega) only [lett_e, bnd_s, bnd_chk, br_not, br_t, br_f, br_T, br_F, not_true_eq_false, not_false_eq_true, chk_T, chk_F, chk_eq, eqI_dc, ltI_dc, leI_dc, eqN_dc, notB_dc, andB_dc, andB_t, eqB_dc, notB_t, notB_f, inR_dc, upR_dc, ln_e, app_e, tk_e, dp_e, upd_e, repl_e, natI_n, br_pos, br_neg, addI_nat, addI_nn, subI_n1, subI_nn, fitN_T, List.length_set, List.length_append, List.length_cons, List.length_nil]
      · right
        have hps := and_le h.isub
        have hlt : (p - 1) &&& s < p := Nat.lt_of_le_of_lt Nat.and_le_left (by omega)
        have enext : andI .i64 (subI .i64 (p : Int) 1) (s : Int) = (((p - 1) &&& s : Nat) : Int) := by
          rw [subI_n1 (by omega), and8 _ _ (by omega) (by omega)]
        have eand := andnot8 s p (by omega) h.isub
        have sums : ∀ i, i < q.length → ∀ (J : Int × Int × Unit → Option (Int × Unit)), (lett J fun j => br (inR (i : Int) (q.length : Int)) (lett (rdP (0, 0, 0, ()) q (natI (i : Int))) fun e13 => br (leI 0 (i : Int)) (br (eqI (andI .i64 (shrI .i64 (p : Int) (i : Int)) 1) 1) (j (addI .i64 (wS (sub (q.take i) p)) e13.2.1, addI .i64 ((sub (q.take i) p).length : Int) 1, ())) (j (wS (sub (q.take i) p), ((sub (q.take i) p).length : Int), ()))) none) none) = J (wS (sub (q.take (i + 1)) p), ((sub (q.take (i + 1)) p).length : Int), ()) := by
          intro i hi J
          rw [lett_e]
          have hb := wS_bound (sub (q.take i) p) (fun x hx => hw x (List.mem_of_mem_take (sub_mem _ _ x hx)))
          have hl := sub_len (q.take i) p
          rw [List.length_take] at hl
          have hx := hw _ (show rP q i ∈ q by unfold rP; rw [rd_lt hi]; exact List.getElem_mem hi)
          have hs := sub_snoc (q.take i) (rP q i) p
          rw [← take_s (d := (0, 0, 0, ())) hi, List.length_take, Nat.min_eq_left (by omega)] at hs
          rw [inR_dc, br_pos (by omega), lett_e, leI_dc, br_pos (by omega), natI_n, eqI_dc, hs]
          by_cases c : andI .i64 (shrI .i64 (p : Int) (i : Int)) 1 = 1
          · rw [br_pos c, if_pos ((bit8 p i (by omega) (by omega)).1 c), wS_app, List.length_append, wS_cons, wS_nil, Int.add_zero, addI_id (by unfold rP at hx; omega), addI_id (by omega)]
            rfl
          · rw [br_neg c, if_neg (fun h => c ((bit8 p i (by omega) (by omega)).2 h)), List.append_nil]
        have hsl := sub_len q p
        by_cases hf : fit m.1 m.2.1 (sub q p)
        · refine ⟨(p - 1) &&& s, _, hlt, ⟨_, rfl, few_yes (by omega) hp0 h hf⟩, ?_⟩
          dsimp only
          rw [ltI_dc, br_pos (by omega), lett_e]
          refine loop_run (n := q.length) (fun i => (wS (sub (q.take i) p), ((sub (q.take i) p).length : Int), (i : Int), ())) (by simp [sub, wS]) (fun i hi rec3 => ?_) (fun rec3 => ?_) (by omega)
          · dsimp only
            rw [ltI_dc, br_pos (by omega)]
            refine (sums i hi _).trans ?_
            dsimp only
            rw [addI_nat (by omega)]
          · have hh := hf
            unfold fit at hh
            have hr8 := h.le8 (s - p)
            obtain ⟨v, hv, ev⟩ := h.good (s - p) (by omega)
            unfold rI at hr8 ev
            rw [List.take_length]
            dsimp only
            rw [ltI_dc, br_neg (by omega), leI_dc, br_pos hh.1, leI_dc, br_pos hh.2, inR_dc, br_pos (by omega), lett_e, eand, inR_dc, br_pos (by omega), lett_e, br_pos (by omega), lett_e, lett_e, natI_n, addI_id (by omega), enext]
            rfl
        · refine ⟨(p - 1) &&& s, _, hlt, ⟨_, rfl, few_no h hf⟩, ?_⟩
          dsimp only
          rw [ltI_dc, br_pos (by omega), lett_e]
          refine loop_run (n := q.length) (fun i => (wS (sub (q.take i) p), ((sub (q.take i) p).length : Int), (i : Int), ())) (by simp [sub, wS]) (fun i hi rec3 => ?_) (fun rec3 => ?_) (by omega)
          · dsimp only
            rw [ltI_dc, br_pos (by omega)]
            refine (sums i hi _).trans ?_
            dsimp only
            rw [addI_nat (by omega)]
          · rw [List.take_length]
            dsimp only
            rw [ltI_dc, br_neg (by omega), leI_dc, enext]
            by_cases c1 : wS (sub q p) ≤ m.1
            · rw [br_pos c1, leI_dc, br_neg (fun c2 => hf ⟨c1, c2⟩)]
            · rw [br_neg c1]
  · obtain rfl : t = 0 := by omega
    refine ⟨0, by rw [sub_zero]; exact Opt_nil _ _, ?_⟩
    simp [rI, rdP, List.getD_eq_getElem?_getD, List.getElem?_replicate, hpos]
  · simp only [rI, rdP, List.getD_eq_getElem?_getD, List.getElem?_replicate]
    split <;> simp
end Go.Proofs.Ytcfbjloblbhdhaa.Eng
