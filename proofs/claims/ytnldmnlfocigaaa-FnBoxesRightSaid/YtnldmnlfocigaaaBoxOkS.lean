/- Whether boxes are right, in the reference. No condition. -/
import Derived.Test.YtnldmnlfocigaaaBoxOk
namespace Go.Proofs.Ytnldmnlfocigaaa.F
open Go.RowKit Go.Proofs.YtnldmnlfocigaaaW.PrintWords Go.Proofs.YtnldmnlfocigaaaW.PrintLast Go.Proofs.Ytnldmnlfocigaaa.Opn
set_option linter.unusedVariables false
set_option linter.unusedSimpArgs false
theorem wrap_next (n : Nat) : wrap64 (wrap64 (n : Int) + 1) = wrap64 ((n + 1 : Nat) : Int) := by unfold wrap64; omega
theorem wsb_app (l : List Pc) (a b : List Int) : wsb l (a ++ b) = wsb l a + wsb l b := by simp [wsb]
theorem wsb_bound {l : List Pc} (hl : PP l) : ∀ ys : List Int, 0 ≤ wsb l ys ∧ wsb l ys ≤ 60 * (ys.length : Int)
  | [] => by simp [wsb]
  | y :: ys => by
    have h1 := wt_bound hl y
    have h2 := wsb_bound hl ys
    rw [wsb_cons, List.length_cons]
    omega
theorem take_snocI (l : List Int) (i : Nat) (hi : i < l.length) : l.take (i + 1) = l.take i ++ [l.getD i 0] := by
  rw [List.take_succ_eq_append_getElem hi, List.getD_eq_getElem?_getD, List.getElem?_eq_getElem hi]; rfl
theorem take_snocB (l : List Bx) (i : Nat) (hi : i < l.length) : l.take (i + 1) = l.take i ++ [l.getD i z62] := by
  rw [List.take_succ_eq_append_getElem hi, List.getD_eq_getElem?_getD, List.getElem?_eq_getElem hi]; rfl
theorem spec_inner (a b : Int) (l : List Pc) (hl : PP l) (B : List Bx) (i C0 : Nat) (hi : i < B.length) (hB : B.length ≤ maxLen) (x : Bx) (hx : B.getD i z62 = x) (hn : x.f2.length ≤ 40) (R : Bool)
    (hR : x.f2.all (hit l x.f0) = true → wsb l x.f2 = x.f1 → Ev (fun k => spec_BoxesOk.l0 k l B (wrap64 ((C0 + x.f2.length : Nat) : Int)) ((i + 1 : Nat) : Int) a b) R) :
    ∀ d j, x.f2.length - j = d → j ≤ x.f2.length → (x.f2.take j).all (hit l x.f0) = true →
      Ev (fun k => spec_BoxesOk.l1 k l B (wrap64 ((C0 + j : Nat) : Int)) (i : Int) (wsb l (x.f2.take j)) (j : Int) a b) ((x.f2.drop j).all (hit l x.f0) && (decide (wsb l x.f2 = x.f1) && R)) := by
  unfold maxLen at hB
  have hl40 := hl.1
  intro d
  induction d with
  | zero =>
    intro j hd hj ht
    obtain rfl : j = x.f2.length := by omega
    rw [List.take_length] at ht ⊢
    rw [List.drop_length]
    refine Ev.step (fun k => spec_BoxesOk.l1.eq_2 ..) (Ev.pos (by omega) (Ev.pos (by omega) ?_))
    simp only [rdBx_nat, hx, List.all_nil, Bool.true_and]
    refine Ev.neg (by omega) (Ev.ite (fun c => ?_) (fun c => Ev.some_ ?_))
    · rw [decide_eq_true c, Bool.true_and, wrap_succ i (by omega)]
      exact hR ht c
    · rw [decide_eq_false c, Bool.false_and]
  | succ d ih =>
    intro j hd hj ht
    have hj' : j < x.f2.length := by omega
    have hs := take_snocI x.f2 j hj'
    have hb := wsb_bound hl (x.f2.take j)
    rw [List.length_take, Nat.min_eq_left (by omega)] at hb
    rw [drop_consI x.f2 j hj']
    refine Ev.step (fun k => spec_BoxesOk.l1.eq_2 ..) (Ev.pos (by omega) (Ev.pos (by omega) ?_))
    simp only [rdBx_nat, hx]
    refine Ev.pos (by omega) (Ev.pos (by omega) ?_)
    simp only [rd_natI]
    have hy := wt_bound hl (x.f2.getD j 0)
    have i1 := ih (j + 1) (by omega) (by omega)
    rw [hs] at i1
    generalize x.f2.getD j 0 = y at *
    refine Ev.bd (ev_l07Piece l (by omega) y) ?_
    rw [List.all_cons]
    cases hp : pieceOf l y with
    | none => exact Ev.pos rfl (Ev.some_ (by simp [hit, hp]))
    | some p =>
      have hpo := PP_mem hl p (pieceOf_some hp).1
      have hw : wt l y = p.f1 := by simp [wt, hp]
      refine Ev.neg (by have := hpo.1; simp only; omega) (Ev.ite (fun c => ?_) (fun c => Ev.some_ ?_))
      · have hh : hit l x.f0 y = true := by
          simp only [hit, hp]
          exact beq_iff_eq.2 c
        have i2 := i1 (by rw [List.all_append, ht]; simp [hh])
        rw [wsb_app, wsb_cons, hw] at i2
        rw [hh, Bool.true_and, wrap_next, wrap_succ j (by omega)]
        rw [hw] at hy
        rw [wrap_id (x := wsb l (x.f2.take j) + p.f1) (by omega) (by omega)]
        rw [show C0 + (j + 1) = C0 + j + 1 by omega, show wsb l [] = 0 from rfl, Int.add_zero] at i2
        exact i2
      · have hh : hit l x.f0 y = false := by
          simp only [hit, hp]
          exact beq_eq_false_iff_ne.2 c
        simp [hh]
theorem spec_outer (a b : Int) (l : List Pc) (ho : LO a b) (hl : PP l) (B : List Bx) (hB : B.length ≤ maxLen) (S : Bool)
    (hS : B.all (good a b l) = true → Ev (fun k => spec_BoxesOk.l2 k l B (wrap64 (((bags B).length : Nat) : Int)) [] 0) S) :
    ∀ d i, B.length - i = d → i ≤ B.length → (B.take i).all (good a b l) = true → Ev (fun k => spec_BoxesOk.l0 k l B (wrap64 (((bags (B.take i)).length : Nat) : Int)) (i : Int) a b) ((B.drop i).all (good a b l) && S) := by
  have hB' : B.length ≤ 2 ^ 63 - 1 := hB
  obtain ⟨o1, o2, o3, o4⟩ := ho
  intro d
  induction d with
  | zero =>
    intro i hd hi ht
    obtain rfl : i = B.length := by omega
    rw [List.take_length] at ht ⊢
    rw [List.drop_length]
    exact Ev.step (fun k => spec_BoxesOk.l0.eq_2 ..) (Ev.neg (by omega) (by simpa using hS ht))
  | succ d ih =>
    intro i hd hi ht
    have hi' : i < B.length := by omega
    have hs := take_snocB B i hi'
    have i1 := ih (i + 1) (by omega) (by omega)
    rw [hs] at i1
    rw [drop_consB B i hi', List.all_cons]
    refine Ev.step (fun k => spec_BoxesOk.l0.eq_2 ..) (Ev.pos (by omega) (Ev.pos (by omega) ?_))
    simp only [rdBx_nat]
    obtain ⟨x, hx⟩ : ∃ x, B.getD i z62 = x := ⟨_, rfl⟩
    rw [hx] at i1 ⊢
    have no : ∀ q, q = true → good a b l x = false → Ev (fun k => spec_BoxesOk.j2 k l B (wrap64 (((bags (B.take i)).length : Nat) : Int)) (i : Int) q a b) (good a b l x && (B.drop (i + 1)).all (good a b l) && S) := fun q hq hg => by
      rw [hg]
      exact Ev.step (fun k => spec_BoxesOk.j2.eq_2 ..) (Ev.pos hq (Ev.now _))
    refine Ev.ite (fun c => no _ rfl ?_) (fun c => Ev.ite (fun c2 => no _ rfl ?_) (fun c2 => ?_))
    · have : x.f2.length = 0 := by omega
      simp [good, this]
    · simp only [good]
      rw [decide_eq_false (show ¬ (x.f2.length : Int) ≤ b by omega)]; simp
    · by_cases c3 : x.f1 > a
      · refine no _ (decide_eq_true c3) ?_
        simp only [good]
        rw [decide_eq_false (show ¬ x.f1 ≤ a by omega)]; simp
      · refine Ev.step (fun k => spec_BoxesOk.j2.eq_2 ..) (Ev.neg (by simpa using c3) ?_)
        have hgood : good a b l x = (x.f2.all (hit l x.f0) && decide (wsb l x.f2 = x.f1)) := by
          simp only [good]
          rw [decide_eq_true (show x.f2.length ≠ 0 by omega), decide_eq_true (show (x.f2.length : Int) ≤ b by omega), decide_eq_true (show x.f1 ≤ a by omega)]
          simp
        have := spec_inner a b l hl B i (bags (B.take i)).length hi' hB x hx (by omega) ((B.drop (i + 1)).all (good a b l) && S) (fun h1 h2 => by
          have i2 := i1 (by rw [List.all_append, ht, List.all_cons, hgood, h1, decide_eq_true h2]; rfl)
          have hb : (bags (B.take i ++ [x])).length = (bags (B.take i)).length + x.f2.length := by simp [bags]
          rw [hb] at i2
          exact i2) _ 0 rfl (by omega) (by simp)
        rw [hgood]
        simpa only [List.take_zero, List.drop_zero, Nat.add_zero, wsb, List.map_nil, List.sum_nil, Bool.and_assoc, Int.natCast_zero] using this
theorem spec_second (l : List Pc) (hl : PP l) (B : List Bx) (hB : B.length ≤ maxLen) (hh : ∀ x ∈ B, ∀ y ∈ x.f2, hit l x.f0 y = true) (c : Int) :
    ∀ d i s, B.length - i = d → i ≤ B.length → known l s → Ev (fun k => spec_BoxesOk.l2 k l B c s (i : Int)) (fresh s (bags (B.drop i)) && (c == (l.length : Int))) := by
  have hB' : B.length ≤ 2 ^ 63 - 1 := hB
  have hl40 := hl.1
  intro d
  induction d with
  | zero =>
    intro i s hd hi hk
    obtain rfl : i = B.length := by omega
    rw [List.drop_length]
    refine Ev.step (fun k => spec_BoxesOk.l2.eq_2 ..) (Ev.neg (by omega) (Ev.some_ ?_))
    simp [bags, fresh]
  | succ d ih =>
    intro i s hd hi hk
    have hi' : i < B.length := by omega
    have hm : B.getD i z62 ∈ B := getD_mem B _ i hi'
    rw [drop_consB B i hi']
    refine Ev.step (fun k => spec_BoxesOk.l2.eq_2 ..) (Ev.pos (by omega) ?_)
    obtain ⟨x, hx⟩ : ∃ x, B.getD i z62 = x := ⟨_, rfl⟩
    rw [hx] at hm ⊢
    have hb : bags (x :: B.drop (i + 1)) = x.f2 ++ bags (B.drop (i + 1)) := by simp [bags]
    rw [hb]
    have inner : ∀ e j s, x.f2.length - j = e → j ≤ x.f2.length → j ≤ s.length → known l s → Ev (fun k => spec_BoxesOk.l3 k l B c s (i : Int) (j : Int)) (fresh s (x.f2.drop j ++ bags (B.drop (i + 1))) && (c == (l.length : Int))) := by
      intro e
      induction e with
      | zero =>
        intro j s he hj hjs hk
        obtain rfl : j = x.f2.length := by omega
        rw [List.drop_length, List.nil_append]
        refine Ev.step (fun k => spec_BoxesOk.l3.eq_2 ..) (Ev.pos (by omega) (Ev.pos (by omega) ?_))
        simp only [rdBx_nat, hx, wrap_succ i (by omega)]
        exact Ev.neg (by omega) (ih (i + 1) s (by omega) (by omega) hk)
      | succ e ihe =>
        intro j s he hj hjs hk
        have hkl := known_len hk
        have hj' : j < x.f2.length := by omega
        have hy := hh x hm _ (getD_mem x.f2 0 j hj')
        rw [drop_consI x.f2 j hj', List.cons_append, fresh]
        refine Ev.step (fun k => spec_BoxesOk.l3.eq_2 ..) (Ev.pos (by omega) (Ev.pos (by omega) ?_))
        simp only [rdBx_nat, hx]
        refine Ev.pos (by omega) (Ev.pos (by omega) ?_)
        simp only [rd_natI, wrap_succ j (by omega)]
        generalize x.f2.getD j 0 = y at *
        refine Ev.bd (ev_l03Has s y (by omega)) (Ev.ite (fun c1 => Ev.some_ ?_) (fun c1 => Ev.pos (by omega) ?_))
        · rw [c1]; simp
        · have c1' : s.contains y = false := by simpa using c1
          rw [c1']
          simpa using ihe (j + 1) (s ++ [y]) (by omega) (by omega) (by simp; omega) (known_snoc hk c1' hy)
    by_cases hs : (0 : Nat) ≤ s.length
    · have := inner _ 0 s rfl (by omega) hs hk
      simpa using this
    · omega
theorem bags_known {a b : Int} {l : List Pc} {B : List Bx} (h : B.all (good a b l) = true) (hf : fresh [] (bags B) = true) : known l (bags B) := by
  refine ⟨by simpa using fresh_nodup (bags B) [] (by simp) hf, fun y hy => ?_⟩
  obtain ⟨x, hx, hy⟩ := List.mem_flatMap.1 hy
  have hg := List.all_eq_true.1 h x hx
  simp only [good, Bool.and_eq_true, List.all_eq_true] at hg
  have hh := hg.2.2.2.1 y hy
  unfold hit at hh
  cases hp : pieceOf l y with
  | none => rw [hp] at hh; cases hh
  | some p => exact List.mem_map.2 ⟨p, (pieceOf_some hp).1, (pieceOf_some hp).2⟩
theorem ev_spec_BoxesOk (a b : Int) (l : List Pc) (hl : l.length ≤ 1048576) (B : List Bx) (hB : B.length ≤ maxLen) : Ev (fun k => spec_BoxesOk.f k a b l B) (BOK a b l B) := by
  unfold spec_BoxesOk.f BOK
  rw [spec_LimitsOk_eq]
  have no : ∀ x, x = true → Ev (fun k => spec_BoxesOk.j0 k l B x a b) false := fun x hx => Ev.step (fun k => spec_BoxesOk.j0.eq_2 ..) (Ev.pos hx (Ev.now _))
  refine Ev.bs (Ev.ite (fun h1 => Ev.bd (ev_spec_PiecesOk l hl) ?_) (fun h1 => ?_))
  · rw [h1]
    by_cases h2 : PP l
    · rw [decide_eq_true h2]
      refine Ev.step (fun k => spec_BoxesOk.j0.eq_2 ..) (Ev.neg (by simp) ?_)
      have hlo : LO a b := of_decide_eq_true h1
      have hl40 := h2.1
      have := spec_outer a b l hlo h2 B hB (fresh [] (bags B) && (wrap64 (((bags B).length : Nat) : Int) == (l.length : Int))) (fun hg => by
        have := spec_second l h2 B hB (fun x hx y hy => by
          have hgx := List.all_eq_true.1 hg x hx
          simp only [good, Bool.and_eq_true, List.all_eq_true] at hgx
          exact hgx.2.2.2.1 y hy) (wrap64 (((bags B).length : Nat) : Int)) _ 0 [] rfl (by omega) ⟨by simp, by simp⟩
        simpa using this) _ 0 rfl (by omega) (by simp)
      have e0 : wrap64 (((bags (B.take 0)).length : Nat) : Int) = 0 := by simp [bags, wrap64]
      rw [e0] at this
      suffices hE : ((B.drop 0).all (good a b l) && (fresh [] (bags B) && (wrap64 (((bags B).length : Nat) : Int) == (l.length : Int)))) = (true && (true && (B.all (good a b l) && (fresh [] (bags B) && decide ((bags B).length = l.length))))) by
        rw [hE] at this
        exact this
      simp only [List.drop_zero, Bool.true_and]
      cases hg : B.all (good a b l) with
      | false => simp
      | true =>
        cases hf : fresh [] (bags B) with
        | false => simp
        | true =>
          have hk := known_len (bags_known hg hf)
          rw [wrap_id (x := (((bags B).length : Nat) : Int)) (by omega) (by omega)]
          simp only [Bool.true_and]
          rw [Bool.eq_iff_iff]
          simp only [beq_iff_eq, decide_eq_true_eq]
          omega
    · rw [decide_eq_false h2]
      exact no _ rfl
  · have : decide (LO a b) = false := by simpa using h1
    rw [this]
    exact no _ rfl
end Go.Proofs.Ytnldmnlfocigaaa.F
