/- The reference's search over all ways to put pieces into boxes: what it computes is the least number. No condition. -/
import Derived.Test.YtnldmnlfocigaaaBoxClass
import Derived.Test.YtnldmnlfocigaaaF40
namespace Go.Proofs.Ytnldmnlfocigaaa.F
open Go.RowKit Go.Proofs.YtnldmnlfocigaaaW.PrintWords Go.Proofs.YtnldmnlfocigaaaW.PrintLast Go.Proofs.Ytnldmnlfocigaaa.Opn
set_option linter.unusedVariables false
set_option linter.unusedSimpArgs false
abbrev Bx := S62
theorem rdBx_nat (l : List Bx) (i : Nat) : rd_T62 l (i : Int) = l.getD i z62 := by simp [rd_T62]
def fitC (W C : Int) (b : List Pc) : Prop := fit W C b ∧ one b
theorem one_perm {b c : List Pc} (h : b.Perm c) (ho : one b) : one c := by
  obtain ⟨e, he⟩ := ho
  exact ⟨e, fun x hx => he x (h.mem_iff.2 hx)⟩
theorem fitC_perm {W C : Int} {b c : List Pc} (h : b.Perm c) (hf : fitC W C b) : fitC W C c := ⟨fit_perm h hf.1, one_perm h hf.2⟩
/-- The box of some pieces. -/
def boxOf (c : List Pc) : Bx := ⟨((c.getLast?).map (·.f2)).getD 0, wS c, c.map (·.f0)⟩
theorem boxOf_snoc (c : List Pc) (p : Pc) : boxOf (c ++ [p]) = ⟨p.f2, wS c + p.f1, c.map (·.f0) ++ [p.f0]⟩ := by
  simp [boxOf, wS]
theorem with_eq (c : List Pc) (p : Pc) (hl : c.length ≤ 1048576) (h0 : 0 ≤ wS c) (h1 : wS c ≤ 1099511627776) (hp : 0 ≤ p.f1 ∧ p.f1 ≤ 60) :
    spec_l07With.f (boxOf c).f0 (boxOf c).f1 (boxOf c).f2 p.f0 p.f1 p.f2 = some ((boxOf (c ++ [p])).f0, (boxOf (c ++ [p])).f1, (boxOf (c ++ [p])).f2) := by
  rw [boxOf_snoc]
  unfold spec_l07With.f boxOf
  simp only [Option.bind_some, List.nil_append, List.length_nil, List.length_map, List.length_cons]
  rw [if_pos (by omega), if_pos (by omega), wrap_id (by omega) (by omega)]
def takes (W C : Int) (c : List Pc) (p : Pc) : Prop := (boxOf c).f0 = p.f2 ∧ (c.length : Int) < C ∧ wS c + p.f1 ≤ W
theorem takes_eq (W C : Int) (c : List Pc) (p : Pc) (h0 : 0 ≤ wS c) (h1 : wS c ≤ 1099511627776) (hp : 0 ≤ p.f1 ∧ p.f1 ≤ 60) :
    (takes W C c p → spec_l07Takes.f W C (boxOf c).f0 (boxOf c).f1 (boxOf c).f2 p.f0 p.f1 p.f2 = some true) ∧ (¬ takes W C c p → spec_l07Takes.f W C (boxOf c).f0 (boxOf c).f1 (boxOf c).f2 p.f0 p.f1 p.f2 = some false) := by
  unfold spec_l07Takes.f
  have e1 : (boxOf c).f1 = wS c := rfl
  have e2 : (boxOf c).f2.length = c.length := by simp [boxOf]
  rw [e1, e2, wrap_id (by omega) (by omega)]
  constructor
  · rintro ⟨h1, h2, h3⟩
    rw [if_pos h1, if_pos h2, decide_eq_true h3]
  · intro h
    by_cases c1 : (boxOf c).f0 = p.f2
    · by_cases c2 : (c.length : Int) < C
      · rw [if_pos c1, if_pos c2, decide_eq_false (fun c3 => h ⟨c1, c2, c3⟩)]
      · rw [if_pos c1, if_neg c2]
    · rw [if_neg c1]
section
variable (W C : Int) (l : List Pc)
/-- No way to go on has fewer boxes. -/
def Low (cs : List (List Pc)) (i v : Nat) : Prop := ∀ (xs : List (List Pc × List Pc)) (es : List (List Pc)), xs.map (·.1) = cs → (∀ x ∈ xs, fitC W C (x.1 ++ x.2)) → (∀ e ∈ es, fitC W C e) → ((xs.map (·.2)).flatten ++ es.flatten).Perm (l.drop i) → v ≤ cs.length + es.length
/-- Some way to go on has just so many. -/
def Att (cs : List (List Pc)) (i v : Nat) : Prop := ∃ bs : List (List Pc), (∀ b ∈ bs, fitC W C b) ∧ bs.flatten.Perm (cs.flatten ++ l.drop i) ∧ bs.length = v
end
theorem drop_cons' (l : List Pc) (i : Nat) (hi : i < l.length) : l.drop i = l.getD i z80 :: l.drop (i + 1) := by
  rw [List.drop_eq_getElem_cons hi, List.getD_eq_getElem?_getD, List.getElem?_eq_getElem hi]; rfl
theorem set_mid (l1 : List (List Pc)) (c : List Pc) (l2 : List (List Pc)) (c' : List Pc) : (l1 ++ c :: l2).set l1.length c' = l1 ++ c' :: l2 := by
  rw [List.set_append_right _ _ (Nat.le_refl _), Nat.sub_self, List.set_cons_zero]
theorem mid_of (cs : List (List Pc)) (k : Nat) (hk : k < cs.length) : ∃ l1 l2, cs = l1 ++ cs.getD k [] :: l2 ∧ l1.length = k := by
  refine ⟨cs.take k, cs.drop (k + 1), ?_, by rw [List.length_take]; omega⟩
  conv => lhs; rw [← List.take_append_drop k cs]
  rw [List.drop_eq_getElem_cons hk, List.getD_eq_getElem?_getD, List.getElem?_eq_getElem hk]
  rfl
theorem Att_set {W C : Int} {l : List Pc} {cs : List (List Pc)} {i v k : Nat} (hi : i < l.length) (hk : k < cs.length) (h : Att W C l (cs.set k (cs.getD k [] ++ [l.getD i z80])) (i + 1) v) : Att W C l cs i v := by
  obtain ⟨l1, l2, e, hl⟩ := mid_of cs k hk
  obtain ⟨bs, h1, h2, h3⟩ := h
  refine ⟨bs, h1, h2.trans ?_, h3⟩
  generalize cs.getD k [] = c at *
  subst e
  rw [← hl, set_mid, drop_cons' l i hi]
  simp only [List.flatten_append, List.flatten_cons, List.append_assoc, List.cons_append, List.nil_append]
  refine List.Perm.append_left _ (List.Perm.append_left _ ?_)
  exact List.perm_middle.symm
theorem Att_new {W C : Int} {l : List Pc} {cs : List (List Pc)} {i v : Nat} (hi : i < l.length) (h : Att W C l (cs ++ [[l.getD i z80]]) (i + 1) v) : Att W C l cs i v := by
  obtain ⟨bs, h1, h2, h3⟩ := h
  refine ⟨bs, h1, h2.trans ?_, h3⟩
  rw [drop_cons' l i hi]
  simp
/-- A box that stands before the pieces: not empty, of one class. -/
def okBox (W C : Int) (c : List Pc) : Prop := c ≠ [] ∧ fitC W C c
theorem box_class {c : List Pc} (hc : c ≠ []) (e : Int) (h : ∀ x ∈ c, x.f2 = e) : (boxOf c).f0 = e := by
  unfold boxOf
  cases hg : c.getLast? with
  | none => exact absurd (List.getLast?_eq_none_iff.1 hg) hc
  | some y => exact h y (List.mem_of_getLast? hg)
theorem Low_step {W C : Int} {l : List Pc} (hl : ∀ x ∈ l, 0 ≤ x.f1) {cs : List (List Pc)} (hcs : ∀ c ∈ cs, okBox W C c) {i v0 v : Nat} (hi : i < l.length)
    (h0 : Low W C l (cs ++ [[l.getD i z80]]) (i + 1) v0) (hv0 : v ≤ v0)
    (hk : ∀ k, k < cs.length → takes W C (cs.getD k []) (l.getD i z80) → Low W C l (cs.set k (cs.getD k [] ++ [l.getD i z80])) (i + 1) v) : Low W C l cs i v := by
  intro xs es hx hf he hp
  rw [drop_cons' l i hi] at hp
  generalize hpq : l.getD i z80 = p at *
  have hm : p ∈ (xs.map (·.2)).flatten ++ es.flatten := hp.mem_iff.2 List.mem_cons_self
  rcases List.mem_append.1 hm with hm | hm
  · obtain ⟨d, hd, hpd⟩ := List.mem_flatten.1 hm
    obtain ⟨x, hxs, rfl⟩ := List.mem_map.1 hd
    obtain ⟨x1, x2, rfl⟩ := List.append_of_mem hxs
    obtain ⟨c, d⟩ := x
    obtain ⟨d1, d2, e⟩ := List.append_of_mem hpd
    simp only at e
    subst e
    subst hx
    have hlen : (x1.map (·.1)).length < ((x1 ++ (c, d1 ++ p :: d2) :: x2).map (·.1)).length := by simp
    have hget : ((x1 ++ (c, d1 ++ p :: d2) :: x2).map (·.1)).getD (x1.map (·.1)).length [] = c := by simp [List.getD_eq_getElem?_getD]
    have hfc := hf (c, d1 ++ p :: d2) (by simp)
    simp only at hfc
    obtain ⟨⟨w1, w2⟩, e, he1⟩ := hfc
    have hcb := hcs c (by simp)
    have hdl : ∀ x ∈ d1 ++ p :: d2, 0 ≤ x.f1 := by
      intro x hx'
      have : x ∈ p :: l.drop (i + 1) := hp.mem_iff.1 (List.mem_append.2 (.inl (List.mem_flatten.2 ⟨d1 ++ p :: d2, by simp, hx'⟩)))
      rw [← hpq, ← drop_cons' l i hi] at this
      exact hl x (List.mem_of_mem_drop this)
    have hws : ∀ b : List Pc, (∀ x ∈ b, 0 ≤ x.f1) → 0 ≤ wS b := by
      intro b hb
      induction b with
      | nil => exact Int.le_refl _
      | cons x b ih =>
        have := hb x List.mem_cons_self
        have := ih (fun y hy => hb y (List.mem_cons_of_mem _ hy))
        rw [wS_cons]; omega
    have h1 := hws d1 (fun x hx' => hdl x (by simp [hx']))
    have h2 := hws d2 (fun x hx' => hdl x (by simp [hx']))
    rw [wS_app, wS_app, wS_cons] at w1
    simp only [List.length_append, List.length_cons] at w2
    have ht : takes W C c p := ⟨(box_class hcb.1 e (fun x hx' => he1 x (List.mem_append.2 (.inl hx')))).trans (he1 p (by simp)).symm, by omega, by omega⟩
    have hlow := hk (x1.map (·.1)).length hlen (by rw [hget]; exact ht)
    rw [hget] at hlow
    have hset : ((x1 ++ (c, d1 ++ p :: d2) :: x2).map (·.1)).set (x1.map (·.1)).length (c ++ [p]) = (x1 ++ (c ++ [p], d1 ++ d2) :: x2).map (·.1) := by
      rw [List.map_append, List.map_cons, set_mid, List.map_append, List.map_cons]
    rw [hset] at hlow
    have hpd2 : (c ++ (d1 ++ p :: d2)).Perm ((c ++ [p]) ++ (d1 ++ d2)) := by
      rw [List.append_assoc]
      exact List.Perm.append_left _ (List.perm_middle.trans (List.Perm.refl _))
    have := hlow (x1 ++ (c ++ [p], d1 ++ d2) :: x2) es rfl (fun y hy => ?_) he ?_
    · simpa using this
    · rcases List.mem_append.1 hy with hy | hy
      · exact hf y (List.mem_append.2 (.inl hy))
      · rcases List.mem_cons.1 hy with rfl | hy
        · exact fitC_perm hpd2 (hf (c, d1 ++ p :: d2) (by simp))
        · exact hf y (List.mem_append.2 (.inr (List.mem_cons_of_mem _ hy)))
    · refine List.Perm.cons_inv (a := p) (List.Perm.trans ?_ hp)
      simp only [List.map_append, List.map_cons, List.flatten_append, List.flatten_cons, List.append_assoc, List.cons_append]
      have a1 : ∀ (A : List Pc) (B : List Pc), (p :: (A ++ B)).Perm (A ++ p :: B) := fun A B => List.perm_middle.symm
      exact (a1 _ _).trans (List.Perm.append_left _ (a1 _ _))
  · obtain ⟨e0, he0, hpe⟩ := List.mem_flatten.1 hm
    obtain ⟨e1, e2, rfl⟩ := List.append_of_mem he0
    obtain ⟨y1, y2, rfl⟩ := List.append_of_mem hpe
    have := h0 (xs ++ [([p], y1 ++ y2)]) (e1 ++ e2) (by rw [List.map_append, hx]; rfl) (fun y hy => ?_) (fun y hy => he y (by simp only [List.mem_append, List.mem_cons] at hy ⊢; rcases hy with h | h; exact .inl h; exact .inr (.inr h))) ?_
    · simp only [List.length_append, List.length_cons, List.length_nil] at this ⊢
      omega
    · rcases List.mem_append.1 hy with hy | hy
      · exact hf y hy
      · obtain rfl := List.mem_singleton.1 hy
        refine fitC_perm ?_ (he (y1 ++ p :: y2) (by simp))
        exact List.perm_middle
    · refine List.Perm.cons_inv (a := p) (List.Perm.trans ?_ hp)
      simp only [List.map_append, List.map_cons, List.map_nil, List.flatten_append, List.flatten_cons, List.flatten_nil, List.append_assoc, List.cons_append, List.append_nil]
      have a1 : ∀ (A : List Pc) (B : List Pc), (p :: (A ++ B)).Perm (A ++ p :: B) := fun A B => List.perm_middle.symm
      refine (a1 _ _).trans (List.Perm.append_left _ ?_)
      refine (a1 _ _).trans ?_
      have h := (List.perm_append_comm_assoc e1.flatten (y1 ++ p :: y2) e2.flatten).symm
      simp only [List.append_assoc, List.cons_append] at h
      exact h
/-- What is kept of the boxes that stand before the pieces. -/
structure Was (W C : Int) (l : List Pc) (cs : List (List Pc)) (i : Nat) : Prop where
  ok : ∀ c ∈ cs, okBox W C c
  few : cs.length ≤ i
  all : ∀ c ∈ cs, c.length ≤ i ∧ 0 ≤ wS c ∧ wS c ≤ 60 * (i : Int)
theorem Was_new {W C : Int} (hW : 60 ≤ W) (hC : 1 ≤ C) {l : List Pc} (hl : ∀ x ∈ l, 0 ≤ x.f1 ∧ x.f1 ≤ 60) {cs : List (List Pc)} {i : Nat} (hi : i < l.length) (h : Was W C l cs i) : Was W C l (cs ++ [[l.getD i z80]]) (i + 1) := by
  have hx := hl _ (show l.getD i z80 ∈ l by rw [List.getD_eq_getElem?_getD, List.getElem?_eq_getElem hi]; exact List.getElem_mem hi)
  generalize l.getD i z80 = p at *
  have e : wS [p] = p.f1 := by simp [wS]
  refine ⟨fun c hc => ?_, by have := h.few; simp; omega, fun c hc => ?_⟩
  · rcases List.mem_append.1 hc with hc | hc
    · exact h.ok c hc
    · obtain rfl := List.mem_singleton.1 hc
      refine ⟨by simp, ⟨by rw [e]; omega, by simp; omega⟩, p.f2, fun x hx => ?_⟩
      rw [List.mem_singleton.1 hx]
  · rcases List.mem_append.1 hc with hc | hc
    · have := h.all c hc
      exact ⟨by omega, this.2.1, by omega⟩
    · obtain rfl := List.mem_singleton.1 hc
      rw [e]
      exact ⟨by simp, hx.1, by omega⟩
theorem Was_set {W C : Int} {l : List Pc} (hl : ∀ x ∈ l, 0 ≤ x.f1 ∧ x.f1 ≤ 60) {cs : List (List Pc)} {i : Nat} (hi : i < l.length) (h : Was W C l cs i) (k : Nat) (hk : k < cs.length) (ht : takes W C (cs.getD k []) (l.getD i z80)) : Was W C l (cs.set k (cs.getD k [] ++ [l.getD i z80])) (i + 1) := by
  have hx := hl _ (show l.getD i z80 ∈ l by rw [List.getD_eq_getElem?_getD, List.getElem?_eq_getElem hi]; exact List.getElem_mem hi)
  have hm : cs.getD k [] ∈ cs := by rw [List.getD_eq_getElem?_getD, List.getElem?_eq_getElem hk]; exact List.getElem_mem hk
  generalize l.getD i z80 = p at *
  generalize cs.getD k [] = c0 at *
  have e : wS (c0 ++ [p]) = wS c0 + p.f1 := by simp [wS]
  have h0 := h.all c0 hm
  refine ⟨fun c hc => ?_, by have := h.few; rw [List.length_set]; omega, fun c hc => ?_⟩
  · rcases List.mem_or_eq_of_mem_set hc with hc | rfl
    · exact h.ok c hc
    · obtain ⟨hne, _, f, hf⟩ := h.ok c0 hm
      obtain ⟨t1, t2, t3⟩ := ht
      refine ⟨by simp, ⟨by rw [e]; exact t3, by simp; omega⟩, f, fun x hx => ?_⟩
      rcases List.mem_append.1 hx with hx | hx
      · exact hf x hx
      · rw [List.mem_singleton.1 hx, ← t1]
        exact box_class hne f hf
  · rcases List.mem_or_eq_of_mem_set hc with hc | rfl
    · have := h.all c hc
      exact ⟨by omega, this.2.1, by omega⟩
    · rw [e]
      exact ⟨by simp; omega, by omega, by omega⟩
theorem getBox (cs : List (List Pc)) (k : Nat) (hk : k < cs.length) : (cs.map boxOf).getD k z62 = boxOf (cs.getD k []) := by
  simp [List.getD_eq_getElem?_getD, hk]
theorem few_search (W C : Int) (hW : 60 ≤ W) (hC : 1 ≤ C) (l : List Pc) (hl8 : l.length ≤ 8) (hl : ∀ x ∈ l, 0 ≤ x.f1 ∧ x.f1 ≤ 60) :
    ∀ d i, l.length - i = d → i ≤ l.length → ∀ cs, Was W C l cs i → ∃ v : Nat, v ≤ 8 ∧ Att W C l cs i v ∧ Low W C l cs i v ∧ Ev (fun k => spec_l07Few.f k W C l (i : Int) (cs.map boxOf)) (v : Int) := by
  intro d
  induction d with
  | zero =>
    intro i hd hi cs hw
    obtain rfl : i = l.length := by omega
    have hf := hw.few
    refine ⟨cs.length, by omega, ⟨cs, fun b hb => (hw.ok b hb).2, by rw [List.drop_length, List.append_nil], rfl⟩, fun xs es _ _ _ _ => by omega, ?_⟩
    refine Ev.step (fun k => spec_l07Few.f.eq_2 ..) (Ev.pos (by omega) (Ev.some_ ?_))
    simp
  | succ d ih =>
    intro i hd hi cs hw
    have hi' : i < l.length := by omega
    have hx := hl _ (show l.getD i z80 ∈ l by rw [List.getD_eq_getElem?_getD, List.getElem?_eq_getElem hi']; exact List.getElem_mem hi')
    obtain ⟨v0, h08, hA0, hL0, e0⟩ := ih (i + 1) (by omega) (by omega) _ (Was_new hW hC hl hi' hw)
    have hfew := hw.few
    -- the loop over the boxes that are there
    have loop : ∀ m k, cs.length - k = m → k ≤ cs.length → ∀ cur : Nat, cur ≤ 8 → Att W C l cs i cur → ∃ v : Nat, v ≤ cur ∧ Att W C l cs i v ∧ (∀ j, k ≤ j → j < cs.length → takes W C (cs.getD j []) (l.getD i z80) → Low W C l (cs.set j (cs.getD j [] ++ [l.getD i z80])) (i + 1) v) ∧
        Ev (fun n => spec_l07Few.l0 n l (i : Int) (cs.map boxOf) (cur : Int) (k : Int) W C) (v : Int) := by
      intro m
      induction m with
      | zero =>
        intro k hm hk cur hc hA
        refine ⟨cur, Nat.le_refl _, hA, fun j h1 h2 => by omega, Ev.step (fun k => spec_l07Few.l0.eq_2 ..) (Ev.neg (by simp; omega) (Ev.now _))⟩
      | succ m ihm =>
        intro k hm hk cur hc hA
        have hk' : k < cs.length := by omega
        have hmem : cs.getD k [] ∈ cs := by rw [List.getD_eq_getElem?_getD, List.getElem?_eq_getElem hk']; exact List.getElem_mem hk'
        have hall := hw.all _ hmem
        obtain ⟨t1, t2⟩ := takes_eq W C (cs.getD k []) (l.getD i z80) hall.2.1 (by omega) hx
        by_cases ht : takes W C (cs.getD k []) (l.getD i z80)
        · obtain ⟨u, hu8, hAu, hLu, eu⟩ := ih (i + 1) (by omega) (by omega) _ (Was_set hl hi' hw k hk' ht)
          have hmn : mn (cur : Int) (u : Int) = ((min cur u : Nat) : Int) := by unfold mn; split <;> omega
          obtain ⟨v, hv, hAv, hLv, ev⟩ := ihm (k + 1) (by omega) (by omega) (min cur u) (by omega) (by
            rcases Nat.le_total cur u with h | h
            · rw [Nat.min_eq_left h]; exact hA
            · rw [Nat.min_eq_right h]; exact Att_set hi' hk' hAu)
          refine ⟨v, by omega, hAv, fun j h1 h2 h3 => ?_, ?_⟩
          · by_cases hj : j = k
            · subst hj
              intro xs es g1 g2 g3 g4
              have := hLu xs es g1 g2 g3 g4
              omega
            · exact hLv j (by omega) h2 h3
          · refine Ev.step (fun k => spec_l07Few.l0.eq_2 ..) (Ev.pos (by simp; omega) (Ev.pos (by omega) (Ev.pos (by omega) (Ev.pos (by omega) ?_))))
            simp only [rdBx_nat, rdP_nat, getBox cs k hk', t1 ht]
            refine Ev.bs (Ev.pos rfl (Ev.bs (Ev.pos (by simp; omega) (Ev.bs ?_))))
            rw [with_eq (cs.getD k []) (l.getD i z80) (by omega) hall.2.1 (by omega) hx]
            refine Ev.bs (Ev.pos (by simp; omega) ?_)
            simp only [List.nil_append, Int.toNat_natCast, wrap_succ i (by omega), wrap_succ k (by omega)]
            have hset : (cs.map boxOf).set k ⟨(boxOf (cs.getD k [] ++ [l.getD i z80])).f0, (boxOf (cs.getD k [] ++ [l.getD i z80])).f1, (boxOf (cs.getD k [] ++ [l.getD i z80])).f2⟩ = (cs.set k (cs.getD k [] ++ [l.getD i z80])).map boxOf := by
              rw [List.map_set]
            rw [hset]
            refine Ev.bd eu ?_
            rw [hmn]
            exact ev
        · obtain ⟨v, hv, hAv, hLv, ev⟩ := ihm (k + 1) (by omega) (by omega) cur hc hA
          refine ⟨v, hv, hAv, fun j h1 h2 h3 => ?_, ?_⟩
          · by_cases hj : j = k
            · subst hj; exact absurd h3 ht
            · exact hLv j (by omega) h2 h3
          · refine Ev.step (fun k => spec_l07Few.l0.eq_2 ..) (Ev.pos (by simp; omega) (Ev.pos (by omega) (Ev.pos (by omega) (Ev.pos (by omega) ?_))))
            simp only [rdBx_nat, rdP_nat, getBox cs k hk', t2 ht, wrap_succ k (by omega)]
            exact Ev.bs (Ev.neg (by simp) ev)
    obtain ⟨v, hv, hAv, hLv, ev⟩ := loop _ 0 rfl (by omega) v0 h08 (Att_new hi' hA0)
    refine ⟨v, by omega, hAv, Low_step (fun x hx => (hl x hx).1) hw.ok hi' hL0 hv (fun k hk ht => hLv k (by omega) hk ht), ?_⟩
    refine Ev.step (fun k => spec_l07Few.f.eq_2 ..) (Ev.neg (by omega) (Ev.bs (Ev.pos (by simp; omega) (Ev.bs (Ev.pos (by omega) (Ev.pos (by omega) ?_))))))
    have hz := with_eq [] (l.getD i z80) (by simp) (by simp [wS]) (by simp [wS]) hx
    simp only [rdP_nat, List.nil_append, wrap_succ i (by omega)]
    rw [show spec_l07With.f 0 0 ([] : List Int) (l.getD i z80).f0 (l.getD i z80).f1 (l.getD i z80).f2 = _ from hz]
    refine Ev.bs (Ev.pos (by simp; omega) (Ev.bd ?_ ev))
    simpa using e0
theorem ev_spec_FewestBoxes (a b : Int) (l : List Pc) (hl : l.length ≤ 1048576) : ∃ r : Int, Ev (fun k => spec_FewestBoxes.f k a b l) r ∧ if LO a b ∧ PP l ∧ l.length ≤ 8 then ∃ v : Nat, OptC a b l v ∧ r = (v : Int) else r = -1 := by
  unfold spec_FewestBoxes.f
  rw [spec_LimitsOk_eq]
  by_cases h : LO a b ∧ PP l ∧ l.length ≤ 8
  · obtain ⟨v, _, hA, hL, ev⟩ := few_search a b h.1.1 h.1.2.2.1 l h.2.2 (fun x hx => by have := PP_mem h.2.1 x hx; exact ⟨by have := this.2.1; omega, this.2.2.1⟩) _ 0 rfl (by omega) [] ⟨fun c hc => absurd hc (by simp), by simp, fun c hc => absurd hc (by simp)⟩
    refine ⟨v, Ev.bs (Ev.pos (decide_eq_true h.1) (Ev.bd (ev_spec_PiecesOk l hl) (Ev.pos (decide_eq_true h.2.1) (Ev.neg (by omega) (Ev.bd ev (Ev.now _)))))), ?_⟩
    rw [if_pos h]
    refine ⟨v, ⟨?_, fun bs hbs => ?_⟩, rfl⟩
    · obtain ⟨bs, h1, h2, h3⟩ := hA
      exact ⟨bs, ⟨by simpa using h2, h1⟩, h3⟩
    · have := hL [] bs rfl (fun x hx => absurd hx (by simp)) hbs.2 (by simpa using hbs.1)
      simpa using this
  · refine ⟨-1, Ev.bs (Ev.ite (fun h1 => Ev.bd (ev_spec_PiecesOk l hl) (Ev.ite (fun h2 => Ev.pos ?_ (Ev.now _)) (fun h2 => Ev.now _))) (fun h1 => Ev.now _)), by rw [if_neg h]⟩
    have h1' := of_decide_eq_true h1
    have h2' := of_decide_eq_true h2
    refine Classical.byContradiction fun hn => h ⟨h1', h2', by omega⟩
end Go.Proofs.Ytnldmnlfocigaaa.F
