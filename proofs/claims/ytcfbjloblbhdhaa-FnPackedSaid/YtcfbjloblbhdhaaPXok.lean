/- First fit's boxes hold the pieces in groups. No condition. -/
import Derived.Test.YtcfbjloblbhdhaaPXsrch2
import Derived.Test.YtcfbjloblbhdhaaPXbnd
namespace Go.Proofs.Ytcfbjloblbhdhaa.Eng
set_option linter.unusedVariables false
set_option linter.unusedSimpArgs false
theorem wS_nn {b : List Pc} (h : ∀ x ∈ b, 1 ≤ x.2.1 ∧ x.2.1 ≤ 60) : 0 ≤ wS b := (wS_bound b (fun x hx => by have := h x hx; omega)).1
theorem fits_takes {m : LimT} {p : Pc} {c : List Pc} (h0 : 0 ≤ wS c ∧ wS c ≤ 2000) (hp : 1 ≤ p.2.1 ∧ p.2.1 ≤ 60) : fitsP m p (boxOf c) ↔ takes m.1 m.2.1 c p := by
  unfold fitsP takes
  have e1 : (boxOf c).2.1 = wS c := rfl
  have e2 : (boxOf c).2.2.1.length = c.length := by simp [boxOf]
  rw [e1, e2, addI_id (by omega)]
theorem addB_box {p : Pc} {c : List Pc} (h0 : 0 ≤ wS c ∧ wS c ≤ 2000) (hp : 1 ≤ p.2.1 ∧ p.2.1 ≤ 60) : addB (boxOf c) p = boxOf (c ++ [p]) := by
  rw [boxOf_snoc]
  unfold addB
  have e1 : (boxOf c).2.1 = wS c := rfl
  have e2 : (boxOf c).2.2.1 = c.map (fun p => (p.1, ())) := rfl
  rw [e1, e2, addI_id (by omega)]
theorem put_pack {m : LimT} (hm : LimP m) {p : Pc} (hp : 1 ≤ p.2.1 ∧ p.2.1 ≤ 60) : ∀ cs : List (List Pc), (∀ c ∈ cs, okBox m.1 m.2.1 c ∧ ∀ x ∈ c, 1 ≤ x.2.1 ∧ x.2.1 ≤ 60) → ∃ cs' : List (List Pc), putF m p (cs.map boxOf) = cs'.map boxOf ∧ cs'.flatten.Perm (p :: cs.flatten) ∧ ∀ c ∈ cs', okBox m.1 m.2.1 c ∧ ∀ x ∈ c, 1 ≤ x.2.1 ∧ x.2.1 ≤ 60
  | [], _ => by
    obtain ⟨⟨o1, o2⟩, o3, o4⟩ := hm
    refine ⟨[[p]], ?_, by simp, fun c hc => ?_⟩
    · have := addB_box (p := p) (c := []) (by simp [wS]) hp
      show [addB (boxOf []) p] = _
      rw [this]; rfl
    · obtain rfl := List.mem_singleton.1 hc
      have e : wS [p] = p.2.1 := by simp [wS]
      refine ⟨⟨by simp, ⟨by rw [e]; omega, by simp; omega⟩, p.2.2.1, fun x hx => by rw [List.mem_singleton.1 hx]⟩, fun x hx => by rw [List.mem_singleton.1 hx]; exact hp⟩
  | c :: cs, h => by
    have hc := h c List.mem_cons_self
    have h0 := wS_nn hc.2
    have h1 := hc.1.2.1.1
    have hm' := hm
    obtain ⟨⟨o1, o2⟩, o3, o4⟩ := hm'
    rw [List.map_cons, putF]
    by_cases ht : takes m.1 m.2.1 c p
    · rw [if_pos ((fits_takes ⟨h0, by omega⟩ hp).2 ht), addB_box ⟨h0, by omega⟩ hp]
      refine ⟨(c ++ [p]) :: cs, rfl, ?_, fun d hd => ?_⟩
      · rw [List.flatten_cons, List.flatten_cons, List.append_assoc]
        exact List.perm_middle
      · rcases List.mem_cons.1 hd with rfl | hd
        · obtain ⟨hne, _, f, hf⟩ := hc.1
          obtain ⟨t1, t2, t3⟩ := ht
          have e : wS (c ++ [p]) = wS c + p.2.1 := by simp [wS]
          refine ⟨⟨by simp, ⟨by rw [e]; exact t3, by simp; omega⟩, f, fun x hx => ?_⟩, fun x hx => ?_⟩
          · rcases List.mem_append.1 hx with hx | hx
            · exact hf x hx
            · rw [List.mem_singleton.1 hx, ← t1]
              exact box_class hne f hf
          · rcases List.mem_append.1 hx with hx | hx
            · exact hc.2 x hx
            · rw [List.mem_singleton.1 hx]; exact hp
        · exact h d (List.mem_cons_of_mem _ hd)
    · rw [if_neg (fun z => ht ((fits_takes ⟨h0, by omega⟩ hp).1 z))]
      obtain ⟨cs', e1, e2, e3⟩ := put_pack hm hp cs (fun d hd => h d (List.mem_cons_of_mem _ hd))
      refine ⟨c :: cs', by rw [e1]; rfl, ?_, fun d hd => ?_⟩
      · rw [List.flatten_cons, List.flatten_cons]
        exact (e2.append_left _).trans List.perm_middle
      · rcases List.mem_cons.1 hd with rfl | hd
        · exact hc
        · exact e3 d hd
theorem ff_pack {m : LimT} {l : List Pc} (hm : LimP m) (hp : PiecesP l) : ∃ cs : List (List Pc), FFm m l = cs.map boxOf ∧ cs.flatten.Perm l ∧ ∀ c ∈ cs, okBox m.1 m.2.1 c := by
  have key : ∀ i, i ≤ l.length → ∃ cs : List (List Pc), ffR m l i = cs.map boxOf ∧ cs.flatten.Perm (l.take i) ∧ ∀ c ∈ cs, okBox m.1 m.2.1 c ∧ ∀ x ∈ c, 1 ≤ x.2.1 ∧ x.2.1 ≤ 60 := by
    intro i
    induction i with
    | zero => intro _; exact ⟨[], rfl, by simp, fun c hc => absurd hc (by simp)⟩
    | succ i ih =>
      intro hi
      obtain ⟨cs, e1, e2, e3⟩ := ih (by omega)
      have hx := (hp.2.1 (rP l i) (by unfold rP; rw [rd_lt hi]; exact List.getElem_mem hi)).2.1
      obtain ⟨cs', f1, f2, f3⟩ := put_pack hm hx cs e3
      refine ⟨cs', by rw [ffR, e1, f1], f2.trans ?_, f3⟩
      rw [take_s (d := (0, 0, 0, ())) (by omega)]
      exact (e2.cons _).trans (List.perm_append_comm (l₁ := [rP l i]) (l₂ := l.take i))
  obtain ⟨cs, e1, e2, e3⟩ := key l.length (Nat.le_refl _)
  rw [List.take_length] at e2
  exact ⟨cs, by unfold FFm; rw [if_pos ⟨hm, hp⟩, e1], e2, fun c hc => (e3 c hc).1⟩
end Go.Proofs.Ytcfbjloblbhdhaa.Eng
