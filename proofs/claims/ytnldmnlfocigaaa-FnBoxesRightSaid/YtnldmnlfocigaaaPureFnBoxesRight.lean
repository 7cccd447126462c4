/- Drawn boxes are right just if each piece is in one of its class and nothing else is in them: the pure statement. No condition. -/
import Derived.Test.YtnldmnlfocigaaaStFnBoxesRight
import Derived.Test.YtnldmnlfocigaaaBoxOkI
import Derived.Test.YtnldmnlfocigaaaBoxOkS
import Derived.Test.YtnldmnlfocigaaaLoadDraw
namespace Go.Proofs.Ytnldmnlfocigaaa.Pure
open Go.RowKit Go.Proofs.YtnldmnlfocigaaaW.PrintWords Go.Proofs.YtnldmnlfocigaaaW.PrintLast Go.Proofs.Ytnldmnlfocigaaa.Opn Go.Proofs.Ytnldmnlfocigaaa.F
theorem draw_boxes (b : List Int) (hb : b.length ≤ 1048576) : ∃ m0 m1 l B, Ev (fun k => spec_DrawBoxesOk.f k b) (m0, m1, l, B) ∧ l.length ≤ 100 ∧ B.length ≤ 100 := by
  unfold spec_DrawBoxesOk.f
  obtain ⟨h, hn⟩ := ev_new b hb
  obtain ⟨m0, m1, i1, h1, e1, c1⟩ := d_anylim b hb 0 h (cok_zero b)
  obtain ⟨l, i2, h2, e2, b2, c2⟩ := ev_anypieces b hb i1 h1 8 (by omega) c1
  have e3 := ev_spec_FirstFit m0 m1 l (by omega)
  obtain ⟨b3, b4⟩ := FF_bound m0 m1 l
  have b5 := FF_full m0 m1 l
  generalize FF m0 m1 l = B at e3 b3 b4 b5
  by_cases q : (B.length : Int) > 0
  · obtain ⟨v, i4, h4, e4, p4, _, q4, c4⟩ := d_below b hb i2 h2 (B.length : Int) c2
    have q4 := q4 q
    obtain ⟨x, i5, h5, e5, _, _, _, c5⟩ := d_below b hb i4 h4 8 c4
    obtain ⟨n, rfl⟩ := Int.eq_ofNat_of_zero_le p4
    have hnl : n < B.length := by omega
    have m1' := getD_mem B z62 n hnl
    have m2' := getD_mem B z62 0 (by omega)
    have s1 := b4 _ m1'
    have s2 := b5 _ m1'
    have s3 := b5 _ m2'
    have r0 : rd_T62 B (n : Int) = B.getD n z62 := rdBx_nat B n
    have r1 : rd_T62 B 0 = B.getD 0 z62 := rdBx_nat B 0
    by_cases q0 : x = 0
    · obtain ⟨y, i6, h6, e6, _, c6⟩ := d_pick b hb i5 h5 [(-1), 1] (by simp) c5
      exact ⟨_, _, _, _, Ev.bd hn (Ev.bd' e1 (Ev.bd e2 (Ev.bd e3 (Ev.pos q (Ev.bd' e4 (Ev.bd' e5 (Ev.pos q0 (Ev.pos p4 (Ev.pos q4 (Ev.bd' e6 (Ev.now _))))))))))), b2, by simp only [List.length_set]; omega⟩
    · by_cases q1 : x = 1
      · exact ⟨_, _, _, _, Ev.bd hn (Ev.bd' e1 (Ev.bd e2 (Ev.bd e3 (Ev.pos q (Ev.bd' e4 (Ev.bd' e5 (Ev.neg q0 (Ev.pos q1 (Ev.pos p4 (Ev.pos q4 (Ev.now _))))))))))), b2, by simp only [List.length_set]; omega⟩
      · by_cases q2 : x = 2
        · exact ⟨_, _, _, _, Ev.bd hn (Ev.bd' e1 (Ev.bd e2 (Ev.bd e3 (Ev.pos q (Ev.bd' e4 (Ev.bd' e5 (Ev.neg q0 (Ev.neg q1 (Ev.pos q2 (Ev.bs (Ev.pos p4 (Ev.pos q4 (Ev.pos (by simp only [r0, List.length_nil]; omega) (Ev.bs (Ev.pos (by omega) (Ev.pos (by simp only [r1]; omega) (Ev.bs (Ev.pos (by simp only [r0, List.nil_append, List.length_cons, List.length_nil]; omega) (Ev.now _))))))))))))))))))), b2, by simp only [List.length_set]; omega⟩
        · by_cases q3 : x = 3
          · have hw : wrap64 ((B.length : Int) - 1) = (B.length : Int) - 1 := wrap_id (by omega) (by omega)
            exact ⟨_, _, _, _, Ev.bd hn (Ev.bd' e1 (Ev.bd e2 (Ev.bd e3 (Ev.pos q (Ev.bd' e4 (Ev.bd' e5 (Ev.neg q0 (Ev.neg q1 (Ev.neg q2 (Ev.pos q3 (Ev.pos (by simp only [hw]; omega) (Ev.pos (by simp only [hw]; omega) (Ev.now _))))))))))))), b2, by simp only [List.length_take]; omega⟩
          · by_cases q5 : x = 4
            · exact ⟨_, _, _, _, Ev.bd hn (Ev.bd' e1 (Ev.bd e2 (Ev.bd e3 (Ev.pos q (Ev.bd' e4 (Ev.bd' e5 (Ev.neg q0 (Ev.neg q1 (Ev.neg q2 (Ev.neg q3 (Ev.pos q5 (Ev.bs (Ev.pos (by simp only [List.length_cons, List.length_nil]; omega) (Ev.now _)))))))))))))), b2, by simp only [List.length_append, List.length_cons, List.length_nil]; omega⟩
            · by_cases q6 : x = 5
              · exact ⟨_, _, _, _, Ev.bd hn (Ev.bd' e1 (Ev.bd e2 (Ev.bd e3 (Ev.pos q (Ev.bd' e4 (Ev.bd' e5 (Ev.neg q0 (Ev.neg q1 (Ev.neg q2 (Ev.neg q3 (Ev.neg q5 (Ev.pos q6 (Ev.bs (Ev.pos p4 (Ev.pos q4 (Ev.pos (by simp only [r0]; omega) (Ev.bs (Ev.pos (by simp only [r0, List.length_drop, List.length_cons, List.length_nil]; omega) (Ev.now _))))))))))))))))))), b2, by simp only [List.length_set]; omega⟩
              · exact ⟨_, _, _, _, Ev.bd hn (Ev.bd' e1 (Ev.bd e2 (Ev.bd e3 (Ev.pos q (Ev.bd' e4 (Ev.bd' e5 (Ev.neg q0 (Ev.neg q1 (Ev.neg q2 (Ev.neg q3 (Ev.neg q5 (Ev.neg q6 (Ev.now _))))))))))))), b2, by omega⟩
  · exact ⟨_, _, _, _, Ev.bd hn (Ev.bd' e1 (Ev.bd e2 (Ev.bd e3 (Ev.neg q (Ev.now _))))), b2, by omega⟩
theorem bags_sum : ∀ B : List Bx, (bags B).length = (B.map (fun x => x.f2.length)).sum := by
  intro B
  unfold bags
  rw [List.length_flatMap]
theorem sum_drop (B : List Bx) (i : Nat) (hi : i < B.length) : ((B.drop i).map (fun x => x.f2.length)).sum = (B.getD i z62).f2.length + ((B.drop (i + 1)).map (fun x => x.f2.length)).sum := by
  rw [drop_consB B i hi]; simp
theorem count_loop (a b : Int) (ho : LO a b) (l : List Pc) (hl : PP l) (B : List Bx) (hB : B.length ≤ 100) (hg : ∀ x ∈ B, good a b l x = true) (hlen : (bags B).length = l.length) :
    Ev (fun k => laws_FnBoxesRight.l0 k l B 0 0 a b) true := by
  have h40 := hl.1
  have key : ∀ d i, B.length - i = d → i ≤ B.length → ∀ c : Nat, c + ((B.drop i).map (fun x => x.f2.length)).sum = l.length → Ev (fun k => laws_FnBoxesRight.l0 k l B (c : Int) (i : Int) a b) true := by
    intro d
    induction d with
    | zero =>
      intro i hd hi c hc
      obtain rfl : i = B.length := by omega
      rw [List.drop_length, List.map_nil, List.sum_nil] at hc
      refine Ev.step (fun k => laws_FnBoxesRight.l0.eq_2 ..) (Ev.neg (by omega) (Ev.pos (by omega) ?_))
      rw [impl_LimitsOk_eq, decide_eq_true ho]
      refine Ev.bs (Ev.pos rfl (Ev.bd (ev_impl_PiecesOk l (by omega)) ?_))
      rw [decide_eq_true hl]
      exact Ev.now _
    | succ d ih =>
      intro i hd hi c hc
      have hil : i < B.length := by omega
      have hgx := hg _ (getD_mem B z62 i hil)
      simp only [good, Bool.and_eq_true, decide_eq_true_eq] at hgx
      obtain ⟨g1, g2, g3, _, _⟩ := hgx
      have hs := sum_drop B i hil
      have r0 : rd_T62 B (i : Int) = B.getD i z62 := rdBx_nat B i
      have step := ih (i + 1) (by omega) (by omega) (c + (B.getD i z62).f2.length) (by omega)
      refine Ev.step (fun k => laws_FnBoxesRight.l0.eq_2 ..) (Ev.pos (by omega) (Ev.pos (by omega) ?_))
      simp only [r0]
      refine Ev.neg (by omega) (Ev.neg (by omega) (Ev.neg (by omega) ?_))
      simp only [wrap_succ i (by omega)]
      rw [wrap_id (by omega) (by omega)]
      have e : ((c + (B.getD i z62).f2.length : Nat) : Int) = (c : Int) + ((B.getD i z62).f2.length : Int) := by omega
      rw [e] at step
      exact step
  exact key _ 0 rfl (Nat.zero_le _) 0 (by rw [List.drop_zero, ← bags_sum, hlen]; omega)
theorem FnBoxesRight : laws_FnBoxesRight.PureR := by
  rintro b ⟨_, _⟩
  refine Ev.rounds ?_
  unfold laws_FnBoxesRight.f laws_big.f
  refine Ev.bs (Ev.ite (fun _ => Ev.now _) (fun hn => ?_))
  have hb : b.length ≤ 1048576 := by
    have : ¬ ((b.length : Int) > 1048576) := by simpa using hn
    omega
  obtain ⟨m0, m1, l, B, ev, hl, hB⟩ := draw_boxes b hb
  have hm : B.length ≤ maxLen := Nat.le_trans hB (by decide)
  refine Ev.bd ev (Ev.bd (ev_impl_BoxesOk m0 m1 l (by omega) B hm) (Ev.bd (ev_spec_BoxesOk m0 m1 l (by omega) B hm) (Ev.neg (by simp) ?_)))
  cases h : BOK m0 m1 l B with
  | true =>
    refine Ev.pos rfl ?_
    simp only [BOK, Bool.and_eq_true, decide_eq_true_eq, List.all_eq_true] at h
    obtain ⟨h1, h2, h3, _, h5⟩ := h
    exact count_loop m0 m1 h1 l h2 B hB h3 h5
  | false =>
    refine Ev.neg (by simp) ?_
    by_cases q1 : (B.length : Int) > 0
    · exact Ev.pos q1 (Ev.now _)
    · refine Ev.neg q1 ?_
      by_cases q2 : (l.length : Int) > 0
      · exact Ev.pos q2 (Ev.now _)
      · refine Ev.neg q2 ?_
        obtain rfl : B = [] := List.eq_nil_of_length_eq_zero (by omega)
        obtain rfl : l = [] := List.eq_nil_of_length_eq_zero (by omega)
        have hp : PP ([] : List Pc) := ⟨by simp, by simp, by simp⟩
        rw [spec_LimitsOk_eq]
        refine Ev.bs (Ev.some_ ?_)
        simpa [BOK, hp, bags, fresh] using h
end Go.Proofs.Ytnldmnlfocigaaa.Pure
