/- What AddNote computes, in the program and in the reference. No condition. -/
import Derived.Test.YtppojihmllmgnaaNoteMarks
import Derived.Test.YtppojihmllmgnaaRowSortK
import Derived.Test.YtppojihmllmgnaaF51
import Derived.Test.YtppojihmllmgnaaF50
namespace Go.Proofs.Ytppojihmllmgnaa.F
open Go.RowKit Go.Proofs.YtppojihmllmgnaaW.PrintWords Go.Proofs.YtppojihmllmgnaaW.PrintLast Go.Proofs.Ytppojihmllmgnaa.Opn
set_option linter.unusedVariables false
set_option linter.unusedSimpArgs false
/-- A note put in its place. -/
def ins (n : Nt) : List Nt → List Nt
  | [] => [n]
  | x :: xs => if n.f0 < x.f0 then n :: x :: xs else x :: ins n xs
theorem ins_perm (n : Nt) : ∀ l, (ins n l).Perm (l ++ [n])
  | [] => List.Perm.refl _
  | x :: xs => by
    unfold ins
    split
    · exact (List.perm_append_singleton n (x :: xs)).symm
    · exact (ins_perm n xs).cons x
theorem ins_sorted (n : Nt) : ∀ l : List Nt, l.Pairwise (fun a b => a.f0 ≤ b.f0) → (ins n l).Pairwise (fun a b => a.f0 ≤ b.f0)
  | [], _ => List.pairwise_singleton _ _
  | x :: xs, h => by
    rw [List.pairwise_cons] at h
    unfold ins
    split
    · rename_i hlt
      refine List.pairwise_cons.2 ⟨fun y hy => ?_, List.pairwise_cons.2 h⟩
      rcases List.mem_cons.1 hy with rfl | hy
      · omega
      · have := h.1 y hy; omega
    · rename_i hlt
      refine List.pairwise_cons.2 ⟨fun y hy => ?_, ins_sorted n xs h.2⟩
      rcases List.mem_append.1 ((ins_perm n xs).mem_iff.1 hy) with hy | hy
      · exact h.1 y hy
      · rw [List.mem_singleton.1 hy]; omega
theorem notesOk_asc {l : List Nt} (h : notesOk l = true) : l.Pairwise (fun a b => a.f0 < b.f0) := by
  have hg : ∀ j (hj : j < l.length), l.getD j z25 = l[j] := fun j hj => by rw [List.getD_eq_getElem?_getD, List.getElem?_eq_getElem hj]; rfl
  have step : ∀ d i (hi : i + d + 1 < l.length), (l[i]'(by omega)).f0 < (l[i + d + 1]).f0 := by
    intro d
    induction d with
    | zero =>
      intro i hi
      have := (notesOk_get h (i + 1) hi).2 (by omega)
      rw [hg _ hi, show i + 1 - 1 = i by omega, hg i (by omega)] at this
      exact this
    | succ d ih =>
      intro i hi
      have h1 := ih i (by omega)
      have h2 := (notesOk_get h (i + (d + 1) + 1) hi).2 (by omega)
      rw [hg _ hi, show i + (d + 1) + 1 - 1 = i + d + 1 by omega, hg (i + d + 1) (by omega)] at h2
      omega
  rw [List.pairwise_iff_getElem]
  intro i j hi hj hij
  have := step (j - i - 1) i (by omega)
  simpa only [show i + (j - i - 1) + 1 = j by omega] using this
theorem with_done (l : List Nt) (hl : l.length ≤ 1048576) (n : Nt) : ∀ d i (out : List Nt), l.length - i = d → i ≤ l.length → out.length ≤ i + 1 → Ev (fun k => spec_l08With.l0 k l out true (i : Int) n.f0 n.f1 n.f2 n.f3 n.f4) (out ++ l.drop i) := by
  intro d
  induction d with
  | zero =>
    intro i out hd hi ho
    rw [List.drop_of_length_le (by omega), List.append_nil]
    exact Ev.step (fun k => spec_l08With.l0.eq_2 ..) (Ev.neg (by omega) (Ev.pos rfl (Ev.now _)))
  | succ d ih =>
    intro i out hd hi ho
    have hi' : i < l.length := by omega
    have hdr : l.drop i = l.getD i z25 :: l.drop (i + 1) := by
      rw [List.drop_eq_getElem_cons hi', List.getD_eq_getElem?_getD, List.getElem?_eq_getElem hi']; rfl
    refine Ev.step (fun k => spec_l08With.l0.eq_2 ..) (Ev.pos (by omega) (Ev.pos rfl (Ev.pos (by omega) (Ev.pos (by omega) ?_))))
    simp only [rd_nat, wrap_succ i (by omega)]
    have := ih (i + 1) (out ++ [l.getD i z25]) (by omega) (by omega) (by simp; omega)
    rw [hdr]
    rw [List.append_assoc] at this
    exact this
theorem with_not (l : List Nt) (hl : l.length ≤ 1048576) (n : Nt) : ∀ d i (out : List Nt), l.length - i = d → i ≤ l.length → out.length ≤ i → Ev (fun k => spec_l08With.l0 k l out false (i : Int) n.f0 n.f1 n.f2 n.f3 n.f4) (out ++ ins n (l.drop i)) := by
  intro d
  induction d with
  | zero =>
    intro i out hd hi ho
    rw [List.drop_of_length_le (by omega)]
    exact Ev.step (fun k => spec_l08With.l0.eq_2 ..) (Ev.neg (by omega) (Ev.neg (by simp) (Ev.pos (by omega) (Ev.now _))))
  | succ d ih =>
    intro i out hd hi ho
    have hi' : i < l.length := by omega
    have hdr : l.drop i = l.getD i z25 :: l.drop (i + 1) := by
      rw [List.drop_eq_getElem_cons hi', List.getD_eq_getElem?_getD, List.getElem?_eq_getElem hi']; rfl
    refine Ev.step (fun k => spec_l08With.l0.eq_2 ..) (Ev.pos (by omega) (Ev.neg (by simp) (Ev.pos (by omega) ?_)))
    simp only [rd_nat, wrap_succ i (by omega)]
    rw [hdr]
    unfold ins
    refine Ev.ite (fun c => ?_) (fun c => ?_)
    · rw [if_pos c]
      refine Ev.pos (by omega) (Ev.bs (Ev.pos (by simp; omega) ?_))
      have := with_done l hl n _ (i + 1) (out ++ [n] ++ [l.getD i z25]) rfl (by omega) (by simp; omega)
      rw [List.append_assoc, List.append_assoc] at this
      rw [List.append_assoc]
      exact this
    · rw [if_neg c]
      refine Ev.pos (by omega) ?_
      have := ih (i + 1) (out ++ [l.getD i z25]) (by omega) (by omega) (by simp; omega)
      rw [List.append_assoc] at this
      exact this
theorem ev_l08With (l : List Nt) (n : Nt) (hl : l.length ≤ 1048576) : Ev (fun k => spec_l08With.f k l n.f0 n.f1 n.f2 n.f3 n.f4) (ins n l) := with_not l hl n _ 0 [] rfl (by omega) (by simp)
theorem sort_ins {l : List Nt} {n : Nt} (h : notesOk l = true) (hn : ∀ x ∈ l, x.f0 ≠ n.f0) (h60 : l.length < 60) : impl_AddNote_1__slices_SortFunc_impl_Note.f (l ++ [n]) = some (ins n l) := by
  have hasc := notesOk_asc h
  have hle : l.Pairwise (fun a b => a.f0 ≤ b.f0) := hasc.imp (fun h => by omega)
  have hnd : ((l ++ [n]).map (·.f0)).Nodup := by
    rw [List.map_append]
    unfold List.Nodup
    rw [List.pairwise_append]
    refine ⟨?_, List.pairwise_singleton _ _, fun a ha b hb => ?_⟩
    · rw [List.pairwise_map]
      exact hasc.imp (fun h => by omega)
    · obtain ⟨x, hx, rfl⟩ := List.mem_map.1 ha
      simp only [List.map_cons, List.map_nil, List.mem_singleton] at hb
      rw [hb]
      exact hn x hx
  unfold impl_AddNote_1__slices_SortFunc_impl_Note.f
  rw [if_pos ⟨by simp, by simp; omega, hnd⟩]
  congr 1
  exact sorted_one (·.f0) (l ++ [n]) _ _ hnd (List.mergeSort_perm _ _) (ins_perm n l)
    ((List.pairwise_mergeSort (fun a b c h1 h2 => by simp at *; omega) (fun a b => by simp; omega) (l ++ [n])).imp (fun h => by simpa using h)) (ins_sorted n l hle)
def eqN (x n : Nt) : Bool := x.f0 == n.f0 && (x.f1 == n.f1 && (x.f2 == n.f2 && (x.f3 == n.f3 && x.f4 == n.f4)))
def addN (l : List Nt) (n : Nt) : List Nt × Bool :=
  if notesOk l = true ∧ noteOk n = true then (if eqN (at8 l n.f0) n = true then (l, true) else if (at8 l n.f0).f0 = 0 then (if (l.length : Int) ≥ 60 then (l, false) else (ins n l, true)) else (l, false)) else (l, false)
theorem ins_len (n : Nt) (l : List Nt) : (ins n l).length = l.length + 1 := by rw [(ins_perm n l).length_eq]; simp
theorem addN_len (l : List Nt) (n : Nt) (h : l.length ≤ 1048576) : (addN l n).1.length ≤ 1048576 := by
  unfold addN
  split
  · rename_i hA
    have h60 := notesOk_len hA.1
    split
    · simp only; omega
    · split
      · split
        · simp only; omega
        · simp only [ins_len]; omega
      · simp only; omega
  · simp only; omega
theorem ev_spec_AddNote (l : List Nt) (n : Nt) (hl : l.length ≤ 1048576) : Ev (fun k => spec_AddNote.f k l n.f0 n.f1 n.f2 n.f3 n.f4) (addN l n) := by
  unfold spec_AddNote.f addN
  simp only [Option.bind_some, List.length_nil, Nat.zero_add, List.nil_append]
  refine Ev.pos (by omega) (Ev.bd (ev_spec_NotesOk l) (Ev.ite (fun h1 => Ev.bd (ev_spec_NoteOk n) (Ev.step (fun k => spec_AddNote.j0.eq_2 ..) (Ev.ite (fun h2 => ?_) (fun h2 => ?_)))) (fun h1 => Ev.step (fun k => spec_AddNote.j0.eq_2 ..) (Ev.pos rfl ?_))))
  · rw [if_neg (fun h => by rw [h.2] at h2; simp at h2)]
    exact Ev.now _
  · rw [if_pos ⟨h1, by simpa using h2⟩]
    refine Ev.bd (ev_l08At l _ hl) (Ev.ite (fun c => ?_) (fun c => ?_))
    · rw [if_pos (show eqN (at8 l n.f0) n = true from c)]
      exact Ev.now _
    · rw [if_neg (show ¬ eqN (at8 l n.f0) n = true from c)]
      refine Ev.ite (fun c2 => ?_) (fun c2 => ?_)
      · rw [if_pos (show (at8 l n.f0).f0 = 0 from c2)]
        refine Ev.ite (fun c3 => ?_) (fun c3 => ?_)
        · rw [if_pos c3]; exact Ev.now _
        · rw [if_neg c3]; exact Ev.bd (ev_l08With l n hl) (Ev.now _)
      · rw [if_neg (show ¬ (at8 l n.f0).f0 = 0 from c2)]
        exact Ev.now _
  · rw [if_neg (fun h => h1 h.1)]
    exact Ev.now _
theorem cloneN_eq' (l : List Nt) (h : l.length ≤ 1048576) : slices_Clone_impl_Note.f l = some l := by
  unfold slices_Clone_impl_Note.f
  simp only [Option.bind_some, List.length_nil, Nat.zero_add, List.nil_append]
  rw [if_pos (by omega)]
theorem ev_impl_AddNote (l : List Nt) (n : Nt) (hl : l.length ≤ 1048576) : Ev (fun k => impl_AddNote.f k l n.f0 n.f1 n.f2 n.f3 n.f4) (addN l n) := by
  unfold impl_AddNote.f addN
  rw [cloneN_eq' l hl]
  refine Ev.bs (Ev.bd (ev_impl_NotesOk l (by unfold maxLen; omega)) (Ev.ite (fun h1 => Ev.bd (ev_impl_NoteOk n) (Ev.step (fun k => impl_AddNote.j0.eq_2 ..) (Ev.ite (fun h2 => ?_) (fun h2 => ?_)))) (fun h1 => Ev.step (fun k => impl_AddNote.j0.eq_2 ..) (Ev.pos rfl ?_))))
  · rw [if_neg (fun h => by rw [h.2] at h2; simp at h2)]
    exact Ev.now _
  · have hno : noteOk n = true := by simpa using h2
    have hA : notesOk l = true ∧ noteOk n = true := ⟨h1, hno⟩
    rw [if_pos hA]
    have hf0 := (noteOk_f0 hno).1
    have h60 := notesOk_len h1
    unfold impl_noteAt.f impl_noteAt_1__slices_IndexFunc_impl_Note.f
    refine Ev.bs ?_
    cases hf : l.findIdx? (fun x => x.f0 == n.f0) with
    | none =>
      have e1 : fidx (fun x : Nt => x.f0 == n.f0) l = -1 := by simp [fidx, hf]
      rw [List.findIdx?_eq_none_iff] at hf
      have e2 : at8 l n.f0 = ⟨0, 0, 0, 0, 0⟩ := by
        unfold at8
        rw [List.find?_eq_none.2 (fun x hx => by simpa using hf x hx)]
        rfl
      have e3 : eqN (⟨0, 0, 0, 0, 0⟩ : Nt) n = false := by
        have : ((0 : Int) == n.f0) = false := beq_eq_false_iff_ne.2 (by omega)
        simp [eqN, this]
      rw [e1, e2, e3, if_neg (show ¬ (false = true) by simp), if_pos (show (⟨0, 0, 0, 0, 0⟩ : Nt).f0 = 0 from rfl)]
      refine Ev.neg (by omega) (Ev.ite (fun c => ?_) (fun c => ?_))
      · rw [if_pos (show (l.length : Int) ≥ 60 by omega)]; exact Ev.now _
      · rw [if_neg (show ¬ ((l.length : Int) ≥ 60) by omega)]
        refine Ev.pos (by omega) ?_
        have hs := sort_ins h1 (n := n) (fun x hx => by simpa using hf x hx) (by omega)
        rw [show (⟨n.f0, n.f1, n.f2, n.f3, n.f4⟩ : Nt) = n from rfl, hs]
        exact Ev.bs (Ev.now _)
    | some i =>
      have e1 : fidx (fun x : Nt => x.f0 == n.f0) l = (i : Int) := by simp [fidx, hf]
      obtain ⟨hi, hp, hlt⟩ := List.findIdx?_eq_some_iff_getElem.1 hf
      have e2 : at8 l n.f0 = l[i] := by
        unfold at8
        rw [show l.find? (fun x => x.f0 == n.f0) = some l[i] from List.find?_eq_some_iff_getElem.2 ⟨hp, i, hi, rfl, fun j hj => by simpa using hlt j hj⟩]
        rfl
      have e3 : l.getD i z25 = l[i] := by rw [List.getD_eq_getElem?_getD, List.getElem?_eq_getElem hi]; rfl
      rw [e1, e2]
      have hz : ¬ (l[i]).f0 = 0 := by
        have : (l[i]).f0 = n.f0 := beq_iff_eq.1 hp
        omega
      refine Ev.pos (by omega) (Ev.pos (by omega) (Ev.pos (by omega) (Ev.some_ ?_)))
      simp only [rd_nat, e3]
      show (l, eqN l[i] n) = _
      by_cases c : eqN l[i] n = true
      · rw [if_pos c, c]
      · rw [if_neg c, if_neg hz, Bool.eq_false_iff.2 c]
  · rw [if_neg (fun h => h1 h.1)]
    exact Ev.now _
end Go.Proofs.Ytppojihmllmgnaa.F
