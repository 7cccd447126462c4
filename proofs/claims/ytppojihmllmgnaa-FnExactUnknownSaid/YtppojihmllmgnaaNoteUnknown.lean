/- What Unknown computes, in the program and in the reference. No condition. -/
import Derived.Test.YtppojihmllmgnaaNoteMarks
import Derived.Test.YtppojihmllmgnaaF39
import Derived.Test.YtppojihmllmgnaaF38
namespace Go.Proofs.Ytppojihmllmgnaa.F
open Go.RowKit Go.Proofs.YtppojihmllmgnaaW.PrintWords Go.Proofs.YtppojihmllmgnaaW.PrintLast Go.Proofs.Ytppojihmllmgnaa.Opn
set_option linter.unusedVariables false
set_option linter.unusedSimpArgs false
def unk (a b : List Nt) : List Nt := if notesOk a = true ∧ notesOk b = true then b.filter (fun x => !(a.any (fun y => y.f0 == x.f0))) else []
theorem unk_len (a b : List Nt) : (unk a b).length ≤ 60 := by
  unfold unk
  split
  · rename_i h
    exact Nat.le_trans (List.length_filter_le _ _) (notesOk_len h.2)
  · simp
theorem cloneN_eq (l : List Nt) (h : l.length ≤ 1048576) : slices_Clone_impl_Note.f l = some l := by
  unfold slices_Clone_impl_Note.f
  simp only [Option.bind_some, List.length_nil, Nat.zero_add, List.nil_append]
  rw [if_pos (by omega)]
theorem ev_impl_Unknown (a b : List Nt) (ha : a.length ≤ 1048576) (hb : b.length ≤ 1048576) : Ev (fun k => impl_Unknown.f k a b) (unk a b) := by
  unfold impl_Unknown.f unk
  refine Ev.bd (ev_impl_NotesOk a (by unfold maxLen; omega)) (Ev.ite (fun h1 => Ev.bd (ev_impl_NotesOk b (by unfold maxLen; omega)) (Ev.step (fun k => impl_Unknown.j0.eq_2 ..) (Ev.ite (fun h2 => ?_) (fun h2 => ?_)))) (fun h1 => Ev.step (fun k => impl_Unknown.j0.eq_2 ..) (Ev.pos rfl ?_)))
  · rw [if_neg (fun h => by rw [h.2] at h2; simp at h2)]
    exact Ev.now _
  · rw [if_pos ⟨h1, by simpa using h2⟩, cloneN_eq b hb]
    refine Ev.bs ?_
    unfold impl_Unknown_1__slices_DeleteFunc_impl_Note.f
    refine Ev.bs (Ev.some_ ?_)
    simp only [fidx_any]
  · rw [if_neg (fun h => h1 h.1)]
    exact Ev.now _
theorem ev_spec_Unknown (a b : List Nt) (ha : a.length ≤ 1048576) (hb : b.length ≤ 1048576) : Ev (fun k => spec_Unknown.f k a b) (unk a b) := by
  unfold spec_Unknown.f unk
  refine Ev.bs (Ev.bd (ev_spec_NotesOk a) (Ev.ite (fun h1 => Ev.bd (ev_spec_NotesOk b) (Ev.step (fun k => spec_Unknown.j0.eq_2 ..) (Ev.ite (fun h2 => ?_) (fun h2 => ?_)))) (fun h1 => Ev.step (fun k => spec_Unknown.j0.eq_2 ..) (Ev.pos rfl ?_))))
  · rw [if_neg (fun h => by rw [h.2] at h2; simp at h2)]
    exact Ev.now _
  · rw [if_pos ⟨h1, by simpa using h2⟩]
    have key := up_state (fun k s i => spec_Unknown.l0 k a b s i) b.length (fun i => (b.take i).filter (fun x => !(a.any (fun y => y.f0 == x.f0)))) (b.filter (fun x => !(a.any (fun y => y.f0 == x.f0)))) ?_ ?_ 0 (by omega)
    · simpa only [List.take_zero, List.filter_nil, Int.natCast_zero] using key
    · refine Ev.step (fun k => spec_Unknown.l0.eq_2 ..) (Ev.neg (by omega) (Ev.some_ ?_))
      rw [List.take_length]
    · intro i hi ih
      have hlen := List.length_filter_le (fun x => !(a.any (fun y => y.f0 == x.f0))) (b.take i)
      have hlt : (b.take i).length ≤ i := by rw [List.length_take]; omega
      refine Ev.step (fun k => spec_Unknown.l0.eq_2 ..) (Ev.pos (by omega) (Ev.pos (by omega) ?_))
      simp only [rd_nat, wrap_succ i (by omega)]
      have ht : b.take (i + 1) = b.take i ++ [b.getD i z25] := by
        rw [List.take_succ_eq_append_getElem hi, List.getD_eq_getElem?_getD, List.getElem?_eq_getElem hi]; rfl
      rw [ht, List.filter_append] at ih
      refine Ev.bd (ev_l08At a _ ha) (Ev.ite (fun c => Ev.pos (Nat.lt_of_le_of_lt hlen (by omega)) ?_) (fun c => ?_))
      · have c' : a.any (fun y => y.f0 == (b.getD i z25).f0) = false := (at8_zero h1 _).1 c
        simp only [List.filter_cons, List.filter_nil, c', Bool.not_false, if_true] at ih
        exact ih
      · have c' : a.any (fun y => y.f0 == (b.getD i z25).f0) = true := by
          cases h : a.any (fun y => y.f0 == (b.getD i z25).f0) with
          | true => rfl
          | false => exact absurd ((at8_zero h1 _).2 h) c
        simp only [List.filter_cons, List.filter_nil, c', Bool.not_true] at ih
        simpa using ih
  · rw [if_neg (fun h => h1 h.1)]
    exact Ev.now _
end Go.Proofs.Ytppojihmllmgnaa.F
