/- What the reference draws of limits, pieces and boxes: each draw ends, the lists are short. No condition. -/
import Derived.Test.YtnldmnlfocigaaaDrawBase
import Derived.Test.YtnldmnlfocigaaaFitBase
import Derived.Test.YtnldmnlfocigaaaF86
import Derived.Test.YtnldmnlfocigaaaF85
namespace Go.Proofs.Ytnldmnlfocigaaa.F
open Go.RowKit Go.Proofs.YtnldmnlfocigaaaW.PrintWords Go.Proofs.YtnldmnlfocigaaaW.PrintLast Go.Proofs.Ytnldmnlfocigaaa.Opn
set_option linter.unusedVariables false
set_option linter.unusedSimpArgs false
theorem d_lim (b : List Int) (hb : b.length ≤ 1048576) (i h : Int) (hi : Cok b i) : ∃ m0 m1 i' h', spec_l07Limits.f b i h = some (m0, m1, i', h') ∧ m0 ∈ [60, 61, 75, 90, 200] ∧ 1 ≤ m1 ∧ m1 ≤ 5 ∧ Cok b i' := by
  unfold spec_l07Limits.f
  obtain ⟨x1, i1, h1, e1, hx, c1⟩ := d_pick b hb i h [60, 61, 75, 90, 200] (by simp) hi
  obtain ⟨x2, i2, h2, e2, p2, _, q2, c2⟩ := d_below b hb i1 h1 5 c1
  have q2 := q2 (by omega)
  rw [e1]; simp only [Option.bind_some]
  rw [e2]; simp only [Option.bind_some]
  exact ⟨_, _, _, _, rfl, hx, by rw [wrap_id (by omega) (by omega)]; omega, by rw [wrap_id (by omega) (by omega)]; omega, c2⟩
theorem d_anylim (b : List Int) (hb : b.length ≤ 1048576) (i h : Int) (hi : Cok b i) : ∃ m0 m1 i' h', spec_l07AnyLimits.f b i h = some (m0, m1, i', h') ∧ Cok b i' := by
  unfold spec_l07AnyLimits.f
  obtain ⟨m0, m1, i1, h1, e1, _, _, _, c1⟩ := d_lim b hb i h hi
  obtain ⟨x, i2, h2, e2, _, _, _, c2⟩ := d_below b hb i1 h1 16 c1
  rw [e1]; simp only [Option.bind_some]
  rw [e2]; simp only [Option.bind_some]
  split
  · obtain ⟨y, i3, h3, e3, _, c3⟩ := d_pick b hb i2 h2 [59, 60, 2000, 2001, 0] (by simp) c2
    rw [e3]; exact ⟨_, _, _, _, rfl, c3⟩
  · split
    · obtain ⟨y, i3, h3, e3, _, c3⟩ := d_pick b hb i2 h2 [0, 40, 41, (-1)] (by simp) c2
      rw [e3]; exact ⟨_, _, _, _, rfl, c3⟩
    · exact ⟨_, _, _, _, rfl, c2⟩
theorem ev_pieces (b : List Int) (hb : b.length ≤ 1048576) (i h a : Int) (ha : 0 ≤ a ∧ a ≤ 20) (hi : Cok b i) : ∃ l i' h', Ev (fun k => spec_l07Pieces.f k b i h a) (l, i', h') ∧ (l.length : Int) ≤ a ∧ Cok b i' := by
  unfold spec_l07Pieces.f
  have hw : wrap64 (a + 1) = a + 1 := wrap_id (by omega) (by omega)
  obtain ⟨x, i1, h1, e1, p1, _, p2, c1⟩ := d_below b hb i h (wrap64 (a + 1)) hi
  have p2 := p2 (by omega)
  rw [e1]
  have loop : ∀ n : Nat, ∀ (l : List Pc) (i h : Int), l.length + n ≤ 20 → Cok b i → ∃ l' i' h', Ev (fun k => spec_l07Pieces.l0 k l (n : Int) b i h) (l', i', h') ∧ l'.length ≤ l.length + n ∧ Cok b i' := by
    intro n
    induction n with
    | zero =>
      intro l i h hl hc
      exact ⟨l, i, h, Ev.step (fun k => spec_l07Pieces.l0.eq_2 ..) (Ev.neg (by omega) (Ev.now _)), by omega, hc⟩
    | succ n ih =>
      intro l i h hl hc
      obtain ⟨x2, i2, h2, e2, _, _, _, c2⟩ := d_below b hb i h 2 hc
      obtain ⟨x3, i3, h3, e3, _, c3⟩ := d_pick b hb i2 h2 [1, 7, 15, 20, 23, 30, 31, 45, 60] (by simp) c2
      obtain ⟨x4, i4, h4, e4, _, c4⟩ := d_pick b hb i3 h3 [0, 0, 0, 1, 2, 5] (by simp) c3
      have hw : wrap64 (((n + 1 : Nat) : Int) - 1) = (n : Int) := by rw [wrap_id (by omega) (by omega)]; omega
      obtain ⟨l', i', h', ev, g1, g2⟩ := ih (l ++ [(⟨wrap64 ((wrap64 ((wrap64 (2 * (l.length : Int))) + 1)) + x2), x3, x4⟩ : Pc)]) i4 h4 (by simp; omega) c4
      refine ⟨l', i', h', Ev.step (fun k => spec_l07Pieces.l0.eq_2 ..) (Ev.pos (by omega) (Ev.bd' e2 (Ev.bd' e3 (Ev.bd' e4 (Ev.pos (by omega) ?_))))), by simp at g1; omega, g2⟩
      simp only [hw]
      exact ev
  obtain ⟨n, rfl⟩ := Int.eq_ofNat_of_zero_le p1
  obtain ⟨l', i', h', ev, g1, g2⟩ := loop n [] i1 h1 (by simp; omega) c1
  exact ⟨l', i', h', Ev.bs ev, by simp at g1; omega, g2⟩
theorem ev_anypieces (b : List Int) (hb : b.length ≤ 1048576) (i h a : Int) (ha : 0 ≤ a ∧ a ≤ 20) (hi : Cok b i) : ∃ l i' h', Ev (fun k => spec_l07AnyPieces.f k b i h a) (l, i', h') ∧ l.length ≤ 100 ∧ Cok b i' := by
  unfold spec_l07AnyPieces.f
  obtain ⟨l, i1, h1, e1, b1, c1⟩ := ev_pieces b hb i h a ha hi
  obtain ⟨x, i2, h2, e2, _, _, _, c2⟩ := d_below b hb i1 h1 18 c1
  by_cases q0 : x = 0
  · by_cases q : (l.length : Int) > 0
    · obtain ⟨y, i3, h3, e3, _, c3⟩ := d_pick b hb i2 h2 [0, 61, 60, (-1)] (by simp) c2
      exact ⟨_, _, _, Ev.bd e1 (Ev.bd' e2 (Ev.pos q0 (Ev.pos q (Ev.bd' e3 (Ev.pos (by first | omega | (dsimp only; omega)) (Ev.now _)))))), by simp only [List.length_set]; omega, c3⟩
    · exact ⟨_, _, _, Ev.bd e1 (Ev.bd' e2 (Ev.pos q0 (Ev.neg q (Ev.now _)))), by first | omega | (dsimp only; omega), c2⟩
  · by_cases q1 : x = 1
    · by_cases q : (l.length : Int) > 0
      · obtain ⟨y, i3, h3, e3, _, c3⟩ := d_pick b hb i2 h2 [(-1), 5, 6] (by simp) c2
        have hw : wrap64 ((l.length : Int) - 1) = (l.length : Int) - 1 := wrap_id (by first | omega | (dsimp only; omega)) (by first | omega | (dsimp only; omega))
        exact ⟨_, _, _, Ev.bd e1 (Ev.bd' e2 (Ev.neg q0 (Ev.pos q1 (Ev.pos q (Ev.bd' e3 (Ev.pos (by simp only [hw]; omega) (Ev.pos (by simp only [hw]; omega) (Ev.now _)))))))), by simp only [List.length_set]; omega, c3⟩
      · exact ⟨_, _, _, Ev.bd e1 (Ev.bd' e2 (Ev.neg q0 (Ev.pos q1 (Ev.neg q (Ev.now _))))), by first | omega | (dsimp only; omega), c2⟩
    · by_cases q2 : x = 2
      · by_cases q : (l.length : Int) > 1
        · exact ⟨_, _, _, Ev.bd e1 (Ev.bd' e2 (Ev.neg q0 (Ev.neg q1 (Ev.pos q2 (Ev.pos q (Ev.pos (by first | omega | (dsimp only; omega)) (Ev.pos (by first | omega | (dsimp only; omega)) (Ev.now _)))))))), by simp only [List.length_set]; omega, c2⟩
        · exact ⟨_, _, _, Ev.bd e1 (Ev.bd' e2 (Ev.neg q0 (Ev.neg q1 (Ev.pos q2 (Ev.neg q (Ev.now _)))))), by first | omega | (dsimp only; omega), c2⟩
      · by_cases q3 : x = 3
        · have loop : ∀ n : Nat, ∀ (l : List Pc) (i h : Int), l.length ≤ 41 → 41 - l.length = n → Cok b i → ∃ l' i' h', Ev (fun k => spec_l07AnyPieces.l0 k l b i h) (l', i', h') ∧ l'.length ≤ 41 ∧ Cok b i' := by
            intro n
            induction n with
            | zero =>
              intro l i h hl hn hc
              obtain ⟨v, i', h', e, g0, _, g1, hc'⟩ := d_below b hb i h 2 hc
              have g1 := g1 (by first | omega | (dsimp only; omega))
              refine ⟨l, i', h', Ev.step (fun k => spec_l07AnyPieces.l0.eq_2 ..) (Ev.bd' e (Ev.neg ?_ (Ev.now _))), hl, hc'⟩
              simp only
              rw [wrap_id (by first | omega | (dsimp only; omega)) (by first | omega | (dsimp only; omega))]; omega
            | succ n ih =>
              intro l i h hl hn hc
              obtain ⟨v, i', h', e, g0, _, g1, hc'⟩ := d_below b hb i h 2 hc
              by_cases c : (l.length : Int) < wrap64 (40 + v)
              · obtain ⟨w, i2, h2, ev, hw, hc2⟩ := ih (l ++ [(⟨wrap64 (200 + (l.length : Int)), 20, 0⟩ : Pc)]) i' h' (by simp; omega) (by simp; omega) hc'
                exact ⟨w, i2, h2, Ev.step (fun k => spec_l07AnyPieces.l0.eq_2 ..) (Ev.bd' e (Ev.pos c (Ev.pos (by first | omega | (dsimp only; omega)) ev))), hw, hc2⟩
              · exact ⟨l, i', h', Ev.step (fun k => spec_l07AnyPieces.l0.eq_2 ..) (Ev.bd' e (Ev.neg c (Ev.now _))), hl, hc'⟩
          obtain ⟨l', i', h', ev, g1, g2⟩ := loop _ l i2 h2 (by first | omega | (dsimp only; omega)) rfl c2
          exact ⟨_, _, _, Ev.bd e1 (Ev.bd' e2 (Ev.neg q0 (Ev.neg q1 (Ev.neg q2 (Ev.pos q3 ev))))), by first | omega | (dsimp only; omega), g2⟩
        · exact ⟨_, _, _, Ev.bd e1 (Ev.bd' e2 (Ev.neg q0 (Ev.neg q1 (Ev.neg q2 (Ev.neg q3 (Ev.now _)))))), by first | omega | (dsimp only; omega), c2⟩
theorem FF_full (m0 m1 : Int) (l : List Pc) : ∀ x ∈ FF m0 m1 l, 0 < x.f2.length := by
  have key : ∀ i, ∀ x ∈ ffN m0 m1 l i, 0 < x.f2.length := by
    intro i
    induction i with
    | zero => intro x hx; exact absurd hx (by simp [ffN])
    | succ i ih =>
      intro x hx
      unfold ffN stepF at hx
      cases hf : (ffN m0 m1 l i).findIdx? (fitsB m0 m1 (l.getD i z80)) with
      | none =>
        rw [hf] at hx
        rcases List.mem_append.1 hx with hx | hx
        · exact ih x hx
        · rw [List.mem_singleton.1 hx]; simp [addB]
      | some j =>
        rw [hf] at hx
        rcases List.mem_or_eq_of_mem_set hx with hx | rfl
        · exact ih x hx
        · simp [addB]
  intro x hx
  unfold FF at hx
  split at hx
  · exact key _ x hx
  · exact absurd hx (by simp)
end Go.Proofs.Ytnldmnlfocigaaa.F
