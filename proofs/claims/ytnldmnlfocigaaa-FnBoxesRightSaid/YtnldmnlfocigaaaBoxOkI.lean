/- Whether boxes are right, in the program. No condition. -/
import Derived.Test.YtnldmnlfocigaaaBoxOk
namespace Go.Proofs.Ytnldmnlfocigaaa.F
open Go.RowKit Go.Proofs.YtnldmnlfocigaaaW.PrintWords Go.Proofs.YtnldmnlfocigaaaW.PrintLast Go.Proofs.Ytnldmnlfocigaaa.Opn
set_option linter.unusedVariables false
set_option linter.unusedSimpArgs false
def tailV (a b f1 : Int) (n : Nat) (w : Int) (r : Bool) : Bool := decide (n ≠ 0) && (decide ((n : Int) ≤ b) && (decide (w = f1) && (decide (w ≤ a) && r)))
theorem impl_BoxesOk_inner (a b : Int) (l : List Pc) (hl : PP l) (B : List Bx) (i : Nat) (hi : i < B.length) (hB : B.length ≤ maxLen) (x : Bx) (R : List Int → Bool)
    (hout : ∀ s, known l s → Ev (fun k => impl_BoxesOk.l0 k l s B (B.length : Int) ((i + 1 : Nat) : Int) a b) (R s)) :
    ∀ d j seen w, x.f2.length - j = d → j ≤ x.f2.length → known l seen → j ≤ seen.length → 0 ≤ w → w ≤ 60 * (j : Int) →
      Ev (fun k => impl_BoxesOk.l1 k l seen w B (B.length : Int) (i : Int) x.f2 (x.f2.length : Int) (j : Int) a b x.f0 x.f1 x.f2)
        ((x.f2.drop j).all (hit l x.f0) && (fresh seen (x.f2.drop j) && tailV a b x.f1 x.f2.length (w + wsb l (x.f2.drop j)) (R (seen ++ x.f2.drop j)))) := by
  unfold maxLen at hB
  have hl40 := hl.1
  intro d
  induction d with
  | zero =>
    intro j seen w hd hj hk hjs hw0 hw1
    obtain rfl : j = x.f2.length := by omega
    rw [List.drop_length, List.append_nil]
    refine Ev.step (fun k => impl_BoxesOk.l1.eq_2 ..) (Ev.neg (by omega) ?_)
    simp only [List.all_nil, fresh, Bool.true_and, wsb, List.map_nil, List.sum_nil, Int.add_zero, tailV]
    refine Ev.ite (fun c => Ev.some_ ?_) (fun c => Ev.ite (fun c2 => Ev.some_ ?_) (fun c2 => Ev.ite (fun c3 => Ev.ite (fun c4 => Ev.some_ ?_) (fun c4 => ?_)) (fun c3 => Ev.some_ ?_)))
    · have : x.f2.length = 0 := by omega
      simp [this]
    · rw [decide_eq_false (show ¬ (x.f2.length : Int) ≤ b by omega)]; simp
    · rw [decide_eq_false (show ¬ w ≤ a by omega)]; simp
    · rw [decide_eq_true (show x.f2.length ≠ 0 by omega), decide_eq_true (show (x.f2.length : Int) ≤ b by omega), decide_eq_true c3, decide_eq_true (show w ≤ a by omega)]
      simp only [Bool.true_and, wrap_succ i (by omega)]
      exact hout seen hk
    · rw [decide_eq_false c3]; simp
  | succ d ih =>
    intro j seen w hd hj hk hjs hw0 hw1
    have hkl := known_len hk
    have hj' : j < x.f2.length := by omega
    rw [drop_consI x.f2 j hj']
    refine Ev.step (fun k => impl_BoxesOk.l1.eq_2 ..) (Ev.pos (by omega) (Ev.pos (by omega) (Ev.pos (by omega) ?_)))
    simp only [rd_natI, wrap_succ j (by omega), impl_BoxesOk_1__slices_IndexFunc_impl_Piece.f]
    generalize x.f2.getD j 0 = y
    rw [List.all_cons, fresh, wsb_cons]
    rcases find_idx l y with ⟨h1, h2⟩ | ⟨m, p, hm, hp, hg, hf, hy, _⟩
    · rw [h2]
      refine Ev.bs (Ev.pos (by omega) (Ev.some_ ?_))
      simp [hit, h1]
    · rw [hf]
      refine Ev.bs (Ev.neg (by omega) (Ev.pos (by omega) (Ev.pos (by omega) ?_)))
      simp only [rdP_nat, hg]
      have hpo := PP_mem hl p (pieceOf_some hp).1
      refine Ev.ite (fun c => Ev.bd (ev_Contains seen y (by omega)) (Ev.ite (fun c2 => Ev.some_ ?_) (fun c2 => Ev.pos (by omega) ?_))) (fun c => Ev.some_ ?_)
      · rw [c2]; simp
      · have c2' : seen.contains y = false := by simpa using c2
        have hh : hit l x.f0 y = true := by simp [hit, hp, c]
        have hw : wt l y = p.f1 := by simp [wt, hp]
        rw [c2', hh, hw]
        simp only [Bool.true_and, Bool.not_false]
        have := ih (j + 1) (seen ++ [y]) (w + p.f1) (by omega) (by omega) (known_snoc hk c2' hh) (by simp; omega) (by have := hpo.2.1; omega) (by have := hpo.2.2.1; omega)
        rw [List.append_assoc, List.singleton_append, Int.add_assoc] at this
        rw [wrap_id (x := w + p.f1) (by have := hpo.2.1; omega) (by have := hpo.2.2.1; omega)]
        exact this
      · simp [hit, hp, c]
def RI (a b : Int) (l : List Pc) (bs : List Bx) (s : List Int) : Bool := bs.all (good a b l) && (fresh s (bags bs) && decide ((s ++ bags bs).length = l.length))
theorem impl_BoxesOk_outer (a b : Int) (l : List Pc) (hl : PP l) (B : List Bx) (hB : B.length ≤ maxLen) :
    ∀ d i s, B.length - i = d → i ≤ B.length → known l s → Ev (fun k => impl_BoxesOk.l0 k l s B (B.length : Int) (i : Int) a b) (RI a b l (B.drop i) s) := by
  intro d
  induction d with
  | zero =>
    intro i s hd hi hk
    obtain rfl : i = B.length := by omega
    refine Ev.step (fun k => impl_BoxesOk.l0.eq_2 ..) (Ev.neg (by omega) (Ev.some_ ?_))
    rw [List.drop_length]
    simp only [RI, bags, List.all_nil, List.flatMap_nil, fresh, Bool.true_and, List.append_nil]
    rw [Bool.eq_iff_iff]
    simp only [beq_iff_eq, decide_eq_true_eq]
    omega
  | succ d ih =>
    intro i s hd hi hk
    have hi' : i < B.length := by omega
    rw [drop_consB B i hi']
    refine Ev.step (fun k => impl_BoxesOk.l0.eq_2 ..) (Ev.pos (by omega) (Ev.pos (by omega) (Ev.pos (by omega) ?_)))
    simp only [rdBx_nat]
    generalize B.getD i z62 = x
    have := impl_BoxesOk_inner a b l hl B i hi' hB x (fun s => RI a b l (B.drop (i + 1)) s) (fun s hs => ih (i + 1) s (by omega) (by omega) hs) _ 0 s 0 rfl (by omega) hk (by omega) (by omega) (by omega)
    refine (show RI a b l (x :: B.drop (i + 1)) s = _ from ?_) ▸ this
    have hb : bags (x :: B.drop (i + 1)) = x.f2 ++ bags (B.drop (i + 1)) := by simp [bags]
    simp only [RI, List.drop_zero, Int.zero_add, hb, fresh_app, List.all_cons, tailV, good, List.append_assoc]
    by_cases hw : wsb l x.f2 = x.f1
    · rw [hw]
      simp only [Bool.and_assoc]
      ac_rfl
    · rw [decide_eq_false hw]; simp
theorem ev_impl_BoxesOk (a b : Int) (l : List Pc) (hl : l.length ≤ 1048576) (B : List Bx) (hB : B.length ≤ maxLen) : Ev (fun k => impl_BoxesOk.f k a b l B) (BOK a b l B) := by
  unfold impl_BoxesOk.f BOK
  rw [impl_LimitsOk_eq]
  have no : ∀ x, x = true → Ev (fun k => impl_BoxesOk.j0 k l B x a b) false := fun x hx => Ev.step (fun k => impl_BoxesOk.j0.eq_2 ..) (Ev.pos hx (Ev.now _))
  refine Ev.bs (Ev.ite (fun h1 => Ev.bd (ev_impl_PiecesOk l hl) ?_) (fun h1 => ?_))
  · rw [h1]
    by_cases h2 : PP l
    · rw [decide_eq_true h2]
      refine Ev.step (fun k => impl_BoxesOk.j0.eq_2 ..) (Ev.neg (by simp) ?_)
      have := impl_BoxesOk_outer a b l h2 B hB _ 0 [] rfl (by omega) ⟨by simp, by simp⟩
      simpa only [RI, List.drop_zero, List.nil_append, Bool.true_and, Int.natCast_zero] using this
    · rw [decide_eq_false h2]
      exact no _ rfl
  · have : decide (LO a b) = false := by simpa using h1
    rw [this]
    exact no _ rfl
end Go.Proofs.Ytnldmnlfocigaaa.F
