/- No list of boxes that is right has fewer boxes than the least number, or than the bound: the pure statement. No condition. -/
import Derived.Test.YtnldmnlfocigaaaStFnEveryPacking
import Derived.Test.YtnldmnlfocigaaaBoxOkI
import Derived.Test.YtnldmnlfocigaaaBoxOkS
import Derived.Test.YtnldmnlfocigaaaBoxClass
import Derived.Test.YtnldmnlfocigaaaLoadBoundI
namespace Go.Proofs.Ytnldmnlfocigaaa.F
open Go.RowKit Go.Proofs.YtnldmnlfocigaaaW.PrintWords Go.Proofs.YtnldmnlfocigaaaW.PrintLast Go.Proofs.Ytnldmnlfocigaaa.Opn
set_option linter.unusedVariables false
set_option linter.unusedSimpArgs false
theorem perm_of_known : ∀ (A B : List Int), A.Nodup → (∀ y ∈ A, y ∈ B) → A.length = B.length → A.Perm B
  | [], B, _, _, h => by
    have : B = [] := List.eq_nil_of_length_eq_zero h.symm
    rw [this]
  | x :: xs, B, hn, hs, h => by
    obtain ⟨b1, b2, rfl⟩ := List.append_of_mem (hs x List.mem_cons_self)
    obtain ⟨h1, h2⟩ := List.nodup_cons.1 hn
    refine ((perm_of_known xs (b1 ++ b2) h2 (fun y hy => ?_) (by simp at h ⊢; omega)).cons x).trans List.perm_middle.symm
    have := hs y (List.mem_cons_of_mem _ hy)
    simp only [List.mem_append, List.mem_cons] at this ⊢
    rcases this with h | rfl | h
    · exact .inl h
    · exact absurd hy h1
    · exact .inr h
def pc (l : List Pc) (y : Int) : Pc := (pieceOf l y).getD z80
theorem pc_self : ∀ (l : List Pc), (l.map (·.f0)).Nodup → ∀ x ∈ l, pc l x.f0 = x
  | [], _, x, hx => absurd hx (by simp)
  | z :: zs, hn, x, hx => by
    rw [List.map_cons] at hn
    obtain ⟨h1, h2⟩ := List.nodup_cons.1 hn
    unfold pc pieceOf
    rw [List.find?_cons]
    rcases List.mem_cons.1 hx with rfl | hx
    · simp
    · have hne : (z.f0 == x.f0) = false := beq_eq_false_iff_ne.2 (fun e => h1 (e ▸ List.mem_map.2 ⟨x, hx, rfl⟩))
      rw [hne]
      exact pc_self zs h2 x hx
/-- Boxes that are right hold the pieces in groups. -/
theorem right_pack {a b : Int} {l : List Pc} {B : List Bx} (hl : PP l) (hg : B.all (good a b l) = true) (hf : fresh [] (bags B) = true) (hn : (bags B).length = l.length) :
    ∃ bs, PkC a b l bs ∧ bs.length = B.length := by
  obtain ⟨k1, k2⟩ := bags_known hg hf
  have hp : (bags B).Perm (l.map (·.f0)) := perm_of_known _ _ k1 k2 (by simpa using hn)
  refine ⟨B.map (fun x => x.f2.map (pc l)), ⟨?_, fun g hgm => ?_⟩, by simp⟩
  · have e1 : (B.map (fun x => x.f2.map (pc l))).flatten = (bags B).map (pc l) := by
      unfold bags
      rw [List.map_flatMap, List.flatMap_def]
    have e2 : (l.map (·.f0)).map (pc l) = l := by
      rw [List.map_map]
      conv => rhs; rw [← List.map_id l]
      exact List.map_congr_left (fun x hx => pc_self l hl.2.2 x hx)
    rw [e1]
    refine (hp.map (pc l)).trans ?_
    rw [e2]
  · obtain ⟨x, hx, rfl⟩ := List.mem_map.1 hgm
    have hgx := List.all_eq_true.1 hg x hx
    simp only [good, Bool.and_eq_true, List.all_eq_true, decide_eq_true_eq] at hgx
    obtain ⟨_, h2, h3, h4, h5⟩ := hgx
    have hw : wS (x.f2.map (pc l)) = wsb l x.f2 := by
      unfold wS wsb
      rw [List.map_map]
      congr 1
      refine List.map_congr_left (fun y hy => ?_)
      have := h4 y hy
      unfold hit at this
      cases hp : pieceOf l y with
      | none => rw [hp] at this; cases this
      | some p => simp [pc, wt, hp]
    refine ⟨⟨by rw [hw, h5]; exact h3, by simpa using h2⟩, x.f0, fun p hpm => ?_⟩
    obtain ⟨y, hy, rfl⟩ := List.mem_map.1 hpm
    have := h4 y hy
    unfold hit at this
    cases hp : pieceOf l y with
    | none => rw [hp] at this; cases this
    | some p =>
      rw [hp] at this
      have e : pc l y = p := by simp [pc, hp]
      rw [e]
      simpa using this
theorem wsum_eq (q : List Pc) : ∀ s : Int, 0 ≤ s → s ≤ 1000000 → (∀ x ∈ q, 0 ≤ x.f1 ∧ x.f1 ≤ 60) → q.length ≤ 1000000 → q.foldl (fun s x => wrap64 (s + x.f1)) s = s + wS q := by
  suffices h : ∀ n : Nat, ∀ q : List Pc, q.length ≤ n → ∀ s : Int, 0 ≤ s → s + 60 * (n : Int) ≤ 1000000000 → (∀ x ∈ q, 0 ≤ x.f1 ∧ x.f1 ≤ 60) → q.foldl (fun s x => wrap64 (s + x.f1)) s = s + wS q by
    intro s h0 h1 h2 h3
    exact h q.length q (Nat.le_refl _) s h0 (by omega) h2
  intro n
  induction n with
  | zero =>
    intro q hq s h0 h1 h2
    have : q = [] := List.eq_nil_of_length_eq_zero (by omega)
    rw [this]
    simp [wS]
  | succ n ih =>
    intro q hq s h0 h1 h2
    cases q with
    | nil => simp [wS]
    | cons x xs =>
      have hx := h2 x List.mem_cons_self
      rw [List.foldl_cons, wrap_id (by omega) (by omega), ih xs (by simp at hq; omega) _ (by omega) (by omega) (fun y hy => h2 y (List.mem_cons_of_mem _ hy)), wS_cons]
      omega
theorem share_bound {a b : Int} (ho : LO a b) (q : List Pc) (hq : q.length ≤ 40) (hw : ∀ x ∈ q, 0 ≤ x.f1 ∧ x.f1 ≤ 60) :
    0 ≤ share a b q ∧ share a b q ≤ 40 ∧ (q ≠ [] → 1 ≤ share a b q) ∧ ∀ bs, Pk a b q bs → share a b q ≤ (bs.length : Int) := by
  obtain ⟨o1, o2, o3, o4⟩ := ho
  have hs : wsum q = wS q := by
    have := wsum_eq q 0 (by omega) (by omega) hw (by omega)
    unfold wsum
    rw [this]
    omega
  have hb := wS_bound q hw
  have d1 : Int.tdiv (wS q + a - 1) a = (wS q + a - 1) / a := Int.tdiv_eq_ediv_of_nonneg (by omega)
  have d2 : Int.tdiv ((q.length : Int) + b - 1) b = ((q.length : Int) + b - 1) / b := Int.tdiv_eq_ediv_of_nonneg (by omega)
  have p1 : ∀ n : Int, wS q ≤ n * a → (wS q + a - 1) / a ≤ n := by
    intro n hn
    have : (wS q + a - 1) / a < n + 1 := Int.ediv_lt_of_lt_mul (by omega) (by rw [Int.add_mul]; omega)
    omega
  have p2 : ∀ n : Int, (q.length : Int) ≤ n * b → ((q.length : Int) + b - 1) / b ≤ n := by
    intro n hn
    have : ((q.length : Int) + b - 1) / b < n + 1 := Int.ediv_lt_of_lt_mul (by omega) (by rw [Int.add_mul]; omega)
    omega
  have n1 : 0 ≤ (wS q + a - 1) / a := Int.ediv_nonneg (by omega) (by omega)
  have n2 : 0 ≤ ((q.length : Int) + b - 1) / b := Int.ediv_nonneg (by omega) (by omega)
  have m1 : (wS q + a - 1) / a ≤ 40 := p1 40 (by omega)
  have m2 : ((q.length : Int) + b - 1) / b ≤ 40 := p2 40 (by omega)
  have hv : share a b q = mx ((wS q + a - 1) / a) (((q.length : Int) + b - 1) / b) := by
    unfold share
    rw [hs, wrap_id (x := wS q + a) (by omega) (by omega), wrap_id (x := wS q + a - 1) (by omega) (by omega), d1, wrap_id (x := (wS q + a - 1) / a) (by omega) (by omega),
      wrap_id (x := (q.length : Int) + b) (by omega) (by omega), wrap_id (x := (q.length : Int) + b - 1) (by omega) (by omega), d2, wrap_id (x := ((q.length : Int) + b - 1) / b) (by omega) (by omega)]
  have hmx : ∀ x y : Int, mx x y = x ∧ y ≤ x ∨ mx x y = y ∧ x ≤ y := by
    intro x y
    unfold mx
    split
    · exact .inr ⟨rfl, by omega⟩
    · exact .inl ⟨rfl, by omega⟩
  refine ⟨by rcases hmx ((wS q + a - 1) / a) (((q.length : Int) + b - 1) / b) with h | h <;> omega, by rcases hmx ((wS q + a - 1) / a) (((q.length : Int) + b - 1) / b) with h | h <;> omega, fun hne => ?_, fun bs hbs => ?_⟩
  · have hlen : 1 ≤ (q.length : Int) := by
      have := List.length_pos_iff.2 hne
      omega
    have : 1 ≤ ((q.length : Int) + b - 1) / b := by
      rw [Int.le_ediv_iff_mul_le (by omega)]
      omega
    rcases hmx ((wS q + a - 1) / a) (((q.length : Int) + b - 1) / b) with h | h <;> omega
  · have hsum : ∀ bs : List (List Pc), (∀ g ∈ bs, fit a b g) → wS bs.flatten ≤ (bs.length : Int) * a ∧ (bs.flatten.length : Int) ≤ (bs.length : Int) * b := by
      intro bs
      induction bs with
      | nil => intro _; simp [wS]
      | cons g gs ih =>
        intro h
        have h1 := h g List.mem_cons_self
        have h2 := ih (fun y hy => h y (List.mem_cons_of_mem _ hy))
        rw [List.flatten_cons, wS_app, List.length_append, List.length_cons]
        have e1 : ((gs.length + 1 : Nat) : Int) * a = (gs.length : Int) * a + a := by rw [Int.natCast_add, Int.add_mul]; omega
        have e2 : ((gs.length + 1 : Nat) : Int) * b = (gs.length : Int) * b + b := by rw [Int.natCast_add, Int.add_mul]; omega
        rw [e1, e2]
        have := h1.1
        have := h1.2
        omega
    obtain ⟨s1, s2⟩ := hsum bs hbs.2
    rw [wS_perm hbs.1] at s1
    rw [hbs.1.length_eq] at s2
    have q1 := p1 _ s1
    have q2 := p2 _ s2
    rcases hmx ((wS q + a - 1) / a) (((q.length : Int) + b - 1) / b) with h | h <;> omega
theorem bound_low {a b : Int} (ho : LO a b) (l : List Pc) (hl : PP l) : ∀ c : Nat, c ≤ 6 → 0 ≤ accB a b l c ∧ accB a b l c ≤ 40 * (c : Int) ∧ (below l c ≠ [] → 1 ≤ accB a b l c) ∧ ∀ bs, PkC a b (below l c) bs → accB a b l c ≤ (bs.length : Int) := by
  intro c
  induction c with
  | zero =>
    intro _
    refine ⟨by simp [accB], by simp [accB], fun h => absurd (below_zero hl) h, fun bs _ => by simp [accB]⟩
  | succ c ih =>
    intro hc
    obtain ⟨i1, i2, i3, i4⟩ := ih (by omega)
    obtain ⟨s1, s2, s3, s4⟩ := share_bound ho (ofC l (c : Int)) (Nat.le_trans (List.length_filter_le _ _) hl.1) (fun x hx => by have := PP_mem hl x (List.mem_filter.1 hx).1; exact ⟨by have := this.2.1; omega, this.2.2.1⟩)
    have hacc : accB a b l (c + 1) = accB a b l c + share a b (ofC l (c : Int)) := by
      show wrap64 (accB a b l c + share a b (ofC l (c : Int))) = _
      exact wrap_id (by omega) (by omega)
    rw [hacc]
    refine ⟨by omega, by omega, fun hne => ?_, fun bs hbs => ?_⟩
    · by_cases h : ofC l (c : Int) = []
      · have : below l c ≠ [] := by
          intro h0
          refine hne (List.eq_nil_iff_forall_not_mem.2 (fun x hx => ?_))
          by_cases hxc : x.f2 = (c : Int)
          · have hm : x ∈ ofC (below l (c + 1)) (c : Int) := List.mem_filter.2 ⟨hx, by simpa using hxc⟩
            rw [below_ofC, h] at hm
            exact absurd hm (by simp)
          · have hm : x ∈ (below l (c + 1)).filter (fun x => x.f2 != (c : Int)) := List.mem_filter.2 ⟨hx, by simpa using hxc⟩
            rw [← below_next l (fun x hx => (PP_mem hl x hx).2.2.2.1) c, h0] at hm
            exact absurd hm (by simp)
        have := i3 this
        omega
      · have := s3 h
        omega
    · obtain ⟨d1, d2, g1, g2, g3, g4, g5⟩ := split_class (c : Int) bs (fun g hg => (hbs.2 g hg).2)
      have j1 := i4 d1 ⟨by rw [g2, below_next l (fun x hx => (PP_mem hl x hx).2.2.2.1) c]; exact hbs.1.filter _, fun g hg => hbs.2 g (g4 g hg)⟩
      have j2 := s4 d2 ⟨by rw [g3, ← below_ofC]; exact hbs.1.filter _, fun g hg => (hbs.2 g (g5 g hg).1).1⟩
      omega
end Go.Proofs.Ytnldmnlfocigaaa.F
namespace Go.Proofs.Ytnldmnlfocigaaa.Pure
open Go.RowKit Go.Proofs.YtnldmnlfocigaaaW.PrintWords Go.Proofs.Ytnldmnlfocigaaa.Opn Go.Proofs.Ytnldmnlfocigaaa.F
theorem FnEveryPacking : laws_FnEveryPacking.Pure := by
  rintro m l B _ ⟨hx, _⟩ ⟨hB, _⟩
  refine Ev.rounds ?_
  unfold laws_FnEveryPacking.f
  by_cases h40 : l.length ≤ 40
  · have hm : l.length ≤ 1048576 := by omega
    have e1 := ev_spec_BoxesOk m.f0 m.f1 l hm B hB
    have e2 := ev_impl_BoxesOk m.f0 m.f1 l hm B hB
    refine Ev.bd e1 (Ev.ite (fun hok => ?_) (fun _ => Ev.now _))
    have hok' := hok
    unfold BOK at hok'
    simp only [Bool.and_eq_true, decide_eq_true_eq] at hok'
    obtain ⟨ho, hp, hg, hf, hn⟩ := hok'
    obtain ⟨bs, hbs, hlen⟩ := right_pack hp hg hf hn
    obtain ⟨b1, b2, b3, b4⟩ := bound_low ho l hp 6 (by omega)
    rw [below_six hp] at b3 b4
    have hBB : BB m.f0 m.f1 l = accB m.f0 m.f1 l 6 := by unfold BB; rw [if_pos ⟨ho, hp⟩]
    obtain ⟨r, er, hr⟩ := ev_impl_FewestBoxes m.f0 m.f1 l hm
    refine Ev.bd er (Ev.bd (ev_impl_BoxBound m.f0 m.f1 l hm) (Ev.ite (fun h8 => ?_) (fun h8 => ?_)))
    · rw [if_neg (fun h => by have := h.2.2; omega)] at hr
      have hne : l ≠ [] := fun h => by rw [h] at h8; simp at h8
      have := b3 hne
      have := b4 bs hbs
      refine Ev.pos hr (Ev.bd e2 (Ev.pos hok (Ev.pos (by rw [hBB]; omega) (Ev.some_ (decide_eq_true (by rw [hBB]; omega))))))
    · rw [if_pos ⟨ho, hp, by omega⟩] at hr
      obtain ⟨v, ⟨⟨cs, hcs, hcv⟩, hlow⟩, rfl⟩ := hr
      have h1 := b4 cs hcs
      have h2 := hlow bs hbs
      refine Ev.bd e2 (Ev.pos hok (Ev.pos (by rw [hBB]; omega) (Ev.pos (by rw [hBB]; omega) (Ev.pos (by omega) (Ev.some_ ?_)))))
      have : l.length = 0 ↔ v = 0 := by
        constructor
        · intro h0
          have hl0 : l = [] := List.eq_nil_of_length_eq_zero h0
          have := hlow [] ⟨by rw [hl0]; exact List.Perm.refl _, fun g hg => absurd hg (by simp)⟩
          simpa using this
        · intro h0
          have hc0 : cs = [] := List.eq_nil_of_length_eq_zero (by omega)
          have := hcs.1.length_eq
          rw [hc0] at this
          simpa using this.symm
      rw [beq_iff_eq, Bool.eq_iff_iff]
      simp only [beq_iff_eq]
      omega
  · refine Ev.bd (a := false) ?_ (Ev.neg (by simp) (Ev.now _))
    unfold spec_BoxesOk.f
    rw [spec_LimitsOk_eq]
    have no : ∀ x, x = true → Ev (fun k => spec_BoxesOk.j0 k l B x m.f0 m.f1) false := fun x hx => Ev.step (fun k => spec_BoxesOk.j0.eq_2 ..) (Ev.pos hx (Ev.now _))
    refine Ev.bs (Ev.ite (fun _ => Ev.bd (a := false) ?_ (no _ rfl)) (fun _ => no _ rfl))
    unfold spec_PiecesOk.f
    exact Ev.pos (by omega) (Ev.now _)
end Go.Proofs.Ytnldmnlfocigaaa.Pure
