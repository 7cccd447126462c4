/- The program's least number of groups of one class: what it computes is the least. No condition. -/
import Derived.Test.YtnldmnlfocigaaaBoxMath
import Derived.Test.YtnldmnlfocigaaaF73
namespace Go.Proofs.Ytnldmnlfocigaaa.F
open Go.RowKit Go.Proofs.YtnldmnlfocigaaaW.PrintWords Go.Proofs.YtnldmnlfocigaaaW.PrintLast Go.Proofs.Ytnldmnlfocigaaa.Opn
set_option linter.unusedVariables false
set_option linter.unusedSimpArgs false
theorem i64w (n : Int) (h₀ : 0 ≤ n) (h₁ : n < 2 ^ 8) : Go.IntKind.i64.wrap n = n := by rw [Go.IntKind.wrap_i64]; omega
theorem and8 (a b : Nat) (ha : a < 256) (hb : b < 256) : Go.bits .and .i64 (a : Int) (b : Int) = ((a &&& b : Nat) : Int) := (Go.bits_nat .i64 8 (by decide) i64w a b (by omega) (by omega)).1
theorem andnot8 (s p : Nat) (hs : s < 256) (hp : p &&& s = p) : Go.bits .andNot .i64 (s : Int) (p : Int) = ((s - p : Nat) : Int) := by
  have hle := and_le hp
  have h1 := andnot_nat 64 s p (by omega) hp
  have e1 : s % 2 ^ Go.IntKind.i64.bits = s := Nat.mod_eq_of_lt (Nat.lt_of_lt_of_le hs (by decide))
  have e2 : p % 2 ^ Go.IntKind.i64.bits = p := Nat.mod_eq_of_lt (Nat.lt_of_lt_of_le (Nat.lt_of_le_of_lt hle hs) (by decide))
  have e3 : (2 : Nat) ^ Go.IntKind.i64.bits = 2 ^ 64 := rfl
  simp only [Go.bits, BitVec.ofInt_natCast, BitVec.toNat_and, BitVec.toNat_not, BitVec.toNat_ofNat, e1, e2]
  rw [e3, h1]
  exact i64w _ (by omega) (by omega)
theorem bit8 (p i : Nat) (hp : p < 256) (hi : i < 8) : (Go.bits .and .i64 (shr .i64 (p : Int) (i : Int)) 1 = 1) ↔ (p / 2 ^ i) % 2 = 1 := by
  have h1 : shr .i64 (p : Int) (i : Int) = ((p / 2 ^ i : Nat) : Int) := by
    unfold shr
    rw [show min ((i : Int)).toNat Go.IntKind.i64.bits = i by rw [Int.toNat_natCast]; exact Nat.min_eq_left (by have : Go.IntKind.i64.bits = 64 := rfl; omega)]
    simp
  have h2 : p / 2 ^ i ≤ p := Nat.div_le_self _ _
  rw [h1, show (1 : Int) = ((1 : Nat) : Int) from rfl, and8 _ _ (by omega) (by omega), Nat.and_one_is_mod]
  omega
theorem shl8 (n : Nat) (h : n ≤ 8) : shl .i64 1 (n : Int) = ((2 ^ n : Nat) : Int) := by
  have : n = 0 ∨ n = 1 ∨ n = 2 ∨ n = 3 ∨ n = 4 ∨ n = 5 ∨ n = 6 ∨ n = 7 ∨ n = 8 := by omega
  rcases this with rfl | rfl | rfl | rfl | rfl | rfl | rfl | rfl | rfl <;> rfl
theorem pow8 (n : Nat) (h : n ≤ 8) : 2 ^ n ≤ 256 := Nat.le_trans (Nat.pow_le_pow_right (by decide) h) (by decide)
theorem mn_le (a b : Int) : mn a b ≤ a ∧ mn a b ≤ b ∧ (mn a b = a ∨ mn a b = b) := by
  unfold mn
  split
  · exact ⟨by omega, by omega, .inr rfl⟩
  · exact ⟨by omega, by omega, .inl rfl⟩
/-- The sum over a set's pieces. -/
theorem ev_l2 (q : List Pc) (hq : q.length ≤ 8) (hw : ∀ x ∈ q, 0 ≤ x.f1 ∧ x.f1 ≤ 60) (best : List Int) (s p : Nat) (hp : p < 256) (a b r : Int)
    (h : Ev (fun k => impl_fewest.l2 k q (q.length : Int) best (s : Int) (p : Int) (wS (sub q p)) ((sub q p).length : Int) q (q.length : Int) (q.length : Int) a b) r) :
    Ev (fun k => impl_fewest.l2 k q (q.length : Int) best (s : Int) (p : Int) 0 0 q (q.length : Int) 0 a b) r := by
  refine up_state (fun k (x : Int × Int) i => impl_fewest.l2 k q (q.length : Int) best (s : Int) (p : Int) x.1 x.2 q (q.length : Int) i a b) q.length (fun i => (wS (sub (q.take i) p), ((sub (q.take i) p).length : Int))) r ?_ ?_ 0 (by omega)
  · simp only [List.take_length]
    exact h
  · intro i hi ih
    have hb := wS_bound (sub (q.take i) p) (fun x hx => hw x (List.mem_of_mem_take (sub_mem _ _ x hx)))
    have hl := sub_len (q.take i) p
    rw [List.length_take] at hl
    have hx := hw _ (show q.getD i z80 ∈ q by rw [List.getD_eq_getElem?_getD, List.getElem?_eq_getElem hi]; exact List.getElem_mem hi)
    have hs := sub_snoc (q.take i) (q.getD i z80) p
    rw [← take_snoc q i hi, List.length_take, Nat.min_eq_left (by omega)] at hs
    refine Ev.step (fun k => impl_fewest.l2.eq_2 ..) (Ev.pos (by omega) (Ev.pos (by omega) (Ev.pos (by omega) ?_)))
    simp only [rdP_nat, wrap_succ i (by omega)]
    simp only [hs] at ih
    refine Ev.ite (fun c => ?_) (fun c => ?_)
    · rw [if_pos ((bit8 p i hp (by omega)).1 c), wS_app, List.length_append, wS_cons, wS_nil] at ih
      rw [wrap_id (by omega) (by omega), wrap_succ _ (by omega)]
      simpa using ih
    · rw [if_neg (fun h => c ((bit8 p i hp (by omega)).2 h)), List.append_nil] at ih
      exact ih
theorem getD_int_set (l : List Int) (i j : Nat) (x : Int) : (l.set i x).getD j 0 = if i = j ∧ j < l.length then x else l.getD j 0 := by
  simp only [List.getD_eq_getElem?_getD, List.getElem?_set]
  by_cases h : i = j
  · subst h
    by_cases hl : i < l.length
    · simp [hl]
    · simp [hl]
  · simp [h]
theorem few_l1 (q : List Pc) (hq : q.length ≤ 8) (hw : ∀ x ∈ q, 0 ≤ x.f1 ∧ x.f1 ≤ 60) (a b : Int) (s : Nat) (hs0 : 0 < s) (hs : s < 2 ^ q.length) :
    ∀ p, p &&& s = p → ∀ best : List Int, best.length = 2 ^ q.length → (∀ t, t < s → ∃ v : Nat, Opt a b (sub q t) v ∧ best.getD t 0 = (v : Int)) → (∀ t, best.getD t 0 ≤ 8) →
      (∃ bs, Pk a b (sub q s) bs ∧ best.getD s 0 = ((bs.length : Nat) : Int)) → (∀ t, t &&& s = t → p < t → fit a b (sub q t) → ∀ bs, Pk a b (sub q (s - t)) bs → best.getD s 0 ≤ ((bs.length : Nat) : Int) + 1) →
      ∃ best' : List Int, best'.length = 2 ^ q.length ∧ (∀ t, t < s + 1 → ∃ v : Nat, Opt a b (sub q t) v ∧ best'.getD t 0 = (v : Int)) ∧ (∀ t, best'.getD t 0 ≤ 8) ∧
        ∀ r, Ev (fun k => impl_fewest.l0 k q (q.length : Int) best' ((s + 1 : Nat) : Int) a b) r → Ev (fun k => impl_fewest.l1 k q (q.length : Int) best (s : Int) (p : Int) a b) r := by
  have h256 := pow8 _ hq
  intro p
  induction p using Nat.strongRecOn with
  | _ p ih =>
    intro hp best hlen hgood h8 hA hB
    by_cases h0 : p = 0
    · subst h0
      refine ⟨best, hlen, fun t ht => ?_, h8, fun r hr => ?_⟩
      · by_cases hts : t < s
        · exact hgood t hts
        · obtain rfl : t = s := by omega
          obtain ⟨bs, hbs, hv⟩ := hA
          refine ⟨bs.length, ⟨⟨bs, hbs, rfl⟩, fun cs hcs => ?_⟩, hv⟩
          have hne := sub_ne q t (by omega) hs
          obtain ⟨b0, hb0, hbne⟩ : ∃ b0 ∈ cs, b0 ≠ [] := by
            refine Classical.byContradiction fun hno => hne ?_
            have : cs.flatten = [] := List.flatten_eq_nil_iff.2 (fun x hx => Classical.byContradiction fun hx' => hno ⟨x, hx, hx'⟩)
            exact (this ▸ hcs.1).symm.eq_nil
          obtain ⟨c1, c2, rfl⟩ := List.append_of_mem hb0
          obtain ⟨m, hm1, hm2, hm3⟩ := sub_mask q t b0 (c1 ++ c2).flatten (hcs.1.symm.trans (flat_mid c1 b0 c2))
          have hm0 : 0 < m := by
            rcases Nat.eq_zero_or_pos m with rfl | h
            · rw [sub_zero] at hm2; exact absurd hm2.symm.eq_nil hbne
            · exact h
          have := hB m hm1 hm0 (fit_perm hm2.symm (hcs.2 b0 hb0)) (c1 ++ c2) ⟨hm3.symm, fun x hx => hcs.2 x (by simp only [List.mem_append, List.mem_cons] at hx ⊢; rcases hx with h | h; exact .inl h; exact .inr (.inr h))⟩
          rw [hv] at this
          simp only [List.length_append, List.length_cons] at this ⊢
          omega
      · refine Ev.step (fun k => impl_fewest.l1.eq_2 ..) (Ev.neg (by omega) ?_)
        simp only [wrap_succ s (by omega)]
        exact hr
    · have hps := and_le hp
      have hlt : (p - 1) &&& s < p := Nat.lt_of_le_of_lt Nat.and_le_left (by omega)
      have hnsub : ((p - 1) &&& s) &&& s = (p - 1) &&& s := by rw [Nat.and_assoc, Nat.and_self]
      have enext : Go.bits .and .i64 (wrap64 ((p : Int) - 1)) (s : Int) = (((p - 1) &&& s : Nat) : Int) := by
        rw [wrap_pred p (by omega) (by omega), and8 _ _ (by omega) (by omega)]
      have eand := andnot8 s p (by omega) hp
      have hsp : s - p < s := by omega
      by_cases hf : fit a b (sub q p)
      · obtain ⟨v, hv, ev⟩ := hgood (s - p) hsp
        obtain ⟨m1, m2, m3⟩ := mn_le (best.getD s 0) ((v : Int) + 1)
        have hset : ∀ t, (best.set s (mn (best.getD s 0) ((v : Int) + 1))).getD t 0 = if s = t then mn (best.getD s 0) ((v : Int) + 1) else best.getD t 0 := by
          intro t
          rw [getD_int_set]
          by_cases h : s = t
          · subst h; rw [if_pos ⟨rfl, by omega⟩, if_pos rfl]
          · rw [if_neg (fun h' => h h'.1), if_neg h]
        obtain ⟨best', g1, g2, g3, g4⟩ := ih _ hlt hnsub (best.set s (mn (best.getD s 0) ((v : Int) + 1))) (by rw [List.length_set]; exact hlen)
          (fun t ht => by rw [hset, if_neg (by omega)]; exact hgood t ht)
          (fun t => by
            rw [hset]
            split
            · exact Int.le_trans m1 (h8 s)
            · exact h8 t)
          (by
            rw [hset, if_pos rfl]
            rcases m3 with m3 | m3
            · rw [m3]; exact hA
            · obtain ⟨⟨bs, hbs, hl⟩, _⟩ := hv
              refine ⟨sub q p :: bs, ⟨?_, fun x hx => ?_⟩, by rw [m3, List.length_cons, hl]; omega⟩
              · rw [List.flatten_cons]
                exact (hbs.1.append_left _).trans (sub_split q s p hp).symm
              · rcases List.mem_cons.1 hx with rfl | hx
                · exact hf
                · exact hbs.2 x hx)
          (fun t ht htp hft bs hbs => by
            rw [hset, if_pos rfl]
            by_cases hc : p < t
            · exact Int.le_trans m1 (hB t ht hc hft bs hbs)
            · have htp' : t = p := by
                rcases Nat.lt_or_ge t p with h | h
                · have := next_sub p s t hp ht h; omega
                · omega
              subst htp'
              have := hv.2 bs hbs
              omega)
        refine ⟨best', g1, g2, g3, fun r hr => ?_⟩
        have g5 := g4 r hr
        refine Ev.step (fun k => impl_fewest.l1.eq_2 ..) (Ev.pos (by omega) (ev_l2 q hq hw best s p (by omega) a b r ?_))
        refine Ev.step (fun k => impl_fewest.l2.eq_2 ..) (Ev.neg (by omega) (Ev.pos hf.1 (Ev.pos hf.2 (Ev.pos (by omega) (Ev.pos (by omega) ?_)))))
        simp only [eand, enext, rd_natI, Int.toNat_natCast]
        refine Ev.pos (by omega) (Ev.pos (by omega) ?_)
        rw [ev]
        have hv8 := h8 (s - p)
        rw [ev] at hv8
        rw [wrap_id (x := (v : Int) + 1) (by omega) (by omega)]
        exact g5
      · obtain ⟨best', g1, g2, g3, g4⟩ := ih _ hlt hnsub best hlen hgood h8 hA (fun t ht htp hft bs hbs => by
          by_cases hc : p < t
          · exact hB t ht hc hft bs hbs
          · have htp' : t = p := by
              rcases Nat.lt_or_ge t p with h | h
              · have := next_sub p s t hp ht h; omega
              · omega
            subst htp'
            exact absurd hft hf)
        refine ⟨best', g1, g2, g3, fun r hr => ?_⟩
        have g5 := g4 r hr
        refine Ev.step (fun k => impl_fewest.l1.eq_2 ..) (Ev.pos (by omega) (ev_l2 q hq hw best s p (by omega) a b r ?_))
        refine Ev.step (fun k => impl_fewest.l2.eq_2 ..) (Ev.neg (by omega) ?_)
        simp only [enext]
        refine Ev.ite (fun c1 => Ev.ite (fun c2 => absurd ⟨c1, c2⟩ hf) (fun c2 => g5)) (fun c1 => g5)
theorem few_l0 (q : List Pc) (hq : q.length ≤ 8) (hw : ∀ x ∈ q, 0 ≤ x.f1 ∧ x.f1 ≤ 60) (a b : Int) (ha : 60 ≤ a) (hb : 1 ≤ b) :
    ∀ d s, 2 ^ q.length - s = d → 0 < s → s ≤ 2 ^ q.length → ∀ best : List Int, best.length = 2 ^ q.length → (∀ t, t < s → ∃ v : Nat, Opt a b (sub q t) v ∧ best.getD t 0 = (v : Int)) → (∀ t, best.getD t 0 ≤ 8) →
      ∃ v : Nat, Opt a b q v ∧ v ≤ 8 ∧ Ev (fun k => impl_fewest.l0 k q (q.length : Int) best (s : Int) a b) (v : Int) := by
  have h256 := pow8 _ hq
  intro d
  induction d with
  | zero =>
    intro s hd h0 hs best hlen hgood h8
    obtain rfl : s = 2 ^ q.length := by omega
    obtain ⟨v, hv, ev⟩ := hgood (2 ^ q.length - 1) (by omega)
    have hv8 := h8 (2 ^ q.length - 1)
    rw [ev] at hv8
    rw [sub_full] at hv
    refine ⟨v, hv, by omega, Ev.step (fun k => impl_fewest.l0.eq_2 ..) (Ev.neg (by omega) ?_)⟩
    rw [show (best.length : Int) - 1 = ((best.length : Nat) : Int) - 1 from rfl, wrap_pred best.length (by omega) (by omega), hlen]
    refine Ev.pos (by omega) (Ev.pos (by omega) (Ev.some_ ?_))
    rw [rd_natI, ev]
  | succ d ih =>
    intro s hd h0 hs best hlen hgood h8
    have hset : ∀ t, (best.set s (q.length : Int)).getD t 0 = if s = t then (q.length : Int) else best.getD t 0 := by
      intro t
      rw [getD_int_set]
      by_cases h : s = t
      · subst h; rw [if_pos ⟨rfl, by omega⟩, if_pos rfl]
      · rw [if_neg (fun h' => h h'.1), if_neg h]
    obtain ⟨bs, hbs, hbl⟩ := Pk_single a b ha hb (sub q s) (fun x hx => (hw x (sub_mem q s x hx)).2) q.length (sub_len q s)
    obtain ⟨best', g1, g2, g3, g4⟩ := few_l1 q hq hw a b s h0 (by omega) s (Nat.and_self s) (best.set s (q.length : Int)) (by rw [List.length_set]; exact hlen)
      (fun t ht => by rw [hset, if_neg (by omega)]; exact hgood t ht)
      (fun t => by
        rw [hset]
        split
        · omega
        · exact h8 t)
      ⟨bs, hbs, by rw [hset, if_pos rfl, hbl]⟩
      (fun t ht hst => absurd (and_le ht) (by omega))
    obtain ⟨v, hv, hv8, ev⟩ := ih (s + 1) (by omega) (by omega) (by omega) best' g1 g2 g3
    refine ⟨v, hv, hv8, Ev.step (fun k => impl_fewest.l0.eq_2 ..) (Ev.pos (by omega) (Ev.pos (by omega) ?_))⟩
    simp only [Int.toNat_natCast]
    exact g4 _ ev
theorem ev_fewest (q : List Pc) (hq : q.length ≤ 8) (hw : ∀ x ∈ q, 0 ≤ x.f1 ∧ x.f1 ≤ 60) (a b : Int) (ha : 60 ≤ a) (hb : 1 ≤ b) :
    ∃ v : Nat, Opt a b q v ∧ v ≤ 8 ∧ Ev (fun k => impl_fewest.f k a b q) (v : Int) := by
  have h256 := pow8 _ hq
  have hpos := Nat.two_pow_pos q.length
  obtain ⟨v, hv, hv8, ev⟩ := few_l0 q hq hw a b ha hb _ 1 rfl (by omega) (by omega) (List.replicate (2 ^ q.length) 0) (by simp)
    (fun t ht => by
      obtain rfl : t = 0 := by omega
      refine ⟨0, by rw [sub_zero]; exact Opt_nil a b, ?_⟩
      simp only [List.getD_eq_getElem?_getD, List.getElem?_replicate, if_pos hpos, Option.getD_some]
      rfl)
    (fun t => by
      simp only [List.getD_eq_getElem?_getD, List.getElem?_replicate]
      split <;> simp)
  refine ⟨v, hv, hv8, ?_⟩
  unfold impl_fewest.f
  simp only [shl8 _ hq, Int.toNat_natCast]
  exact Ev.pos (by omega) (Ev.pos (by omega) ev)
end Go.Proofs.Ytnldmnlfocigaaa.F
