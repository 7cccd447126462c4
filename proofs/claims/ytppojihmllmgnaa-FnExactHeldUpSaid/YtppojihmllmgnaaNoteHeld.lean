/- What HeldUp computes, in the program and in the reference. No condition. -/
import Derived.Test.YtppojihmllmgnaaNoteLast
import Derived.Test.YtppojihmllmgnaaNoteMarks
import Derived.Test.YtppojihmllmgnaaAscBase
import Derived.Test.YtppojihmllmgnaaF54
import Derived.Test.YtppojihmllmgnaaF53
namespace Go.Proofs.Ytppojihmllmgnaa.F
open Go.RowKit Go.Proofs.YtppojihmllmgnaaW.PrintWords Go.Proofs.YtppojihmllmgnaaW.PrintLast Go.Proofs.Ytppojihmllmgnaa.Opn
set_option linter.unusedVariables false
set_option linter.unusedSimpArgs false
/-- A note that tells that somebody's bag flies along, not pulled. -/
def ownsN (l : List Nt) (fl w : Int) (n : Nt) : Bool := (n.f1 == 1 && n.f2 == w) && ((ownerOf l n.f3).2.2 && ((ownerOf l n.f3).1 == w && ((ownerOf l n.f3).2.1 == fl && !pulled l n.f3 fl)))
def heldW (l : List Nt) (fl w : Int) : Bool := l.any (ownsN l fl w) && !aboard l w fl
def heldS (l : List Nt) (fl : Int) (n : Nat) : List Int := ((List.range n).filter (fun w : Nat => decide (1 ≤ w) && heldW l fl (w : Int))).map (fun w : Nat => (w : Int))
def held (l : List Nt) (fl : Int) : List Int := if notesOk l = true then heldS l fl 1001 else []
theorem heldS_succ (l : List Nt) (fl : Int) (n : Nat) (hn : 1 ≤ n) : heldS l fl (n + 1) = if heldW l fl (n : Int) = true then heldS l fl n ++ [(n : Int)] else heldS l fl n := by
  unfold heldS
  rw [List.range_succ, List.filter_append, List.map_append]
  cases h : heldW l fl (n : Int) <;> simp [h, hn]
theorem heldS_len (l : List Nt) (fl : Int) (n : Nat) : (heldS l fl n).length ≤ n := by
  unfold heldS
  rw [List.length_map]
  exact Nat.le_trans (List.length_filter_le _ _) (by simp)
theorem any_snoc (l : List Nt) (p : Nt → Bool) (i : Nat) (hi : i < l.length) : (l.take (i + 1)).any p = ((l.take i).any p || p (l.getD i z25)) := by
  rw [List.take_succ_eq_append_getElem hi, List.any_append, List.getD_eq_getElem?_getD, List.getElem?_eq_getElem hi]
  simp
theorem ev_spec_HeldUp (l : List Nt) (fl : Int) (hl : l.length ≤ 1048576) : Ev (fun k => spec_HeldUp.f k l fl) (held l fl) := by
  have hm : l.length ≤ maxLen := by unfold maxLen; omega
  unfold spec_HeldUp.f held
  refine Ev.bs (Ev.bd (ev_spec_NotesOk l) (Ev.ite (fun h => ?_) (fun h => ?_)))
  · rw [if_pos h]
    have key := up_state (fun k s i => spec_HeldUp.l0 k l fl s (i + 1)) 1000 (fun i => heldS l fl (i + 1)) (heldS l fl 1001) ?_ ?_ 0 (by omega)
    · have h1 : heldS l fl (0 + 1) = [] := by simp [heldS, List.range_succ]
      rw [h1] at key
      exact key
    · exact Ev.step (fun k => spec_HeldUp.l0.eq_2 ..) (Ev.neg (by omega) (Ev.now _))
    · intro i hi ih
      refine Ev.step (fun k => spec_HeldUp.l0.eq_2 ..) (Ev.pos (by omega) ?_)
      have hw : (i : Int) + 1 = ((i + 1 : Nat) : Int) := by omega
      simp only [hw]
      simp only [hw, heldS_succ l fl (i + 1) (by omega)] at ih
      have hlen := heldS_len l fl (i + 1)
      generalize heldS l fl (i + 1) = acc at ih hlen
      have hnext : wrap64 (((i + 1 : Nat) : Int) + 1) = ((i + 1 : Nat) : Int) + 1 := by rw [wrap_succ (i + 1) (by omega)]; omega
      generalize hw2 : ((i + 1 : Nat) : Int) = w at ih hnext
      have hlow : (0 : Int) < w := by omega
      refine up_state (fun k x j => spec_HeldUp.l1 k l fl acc w x j) l.length (fun j => (l.take j).any (ownsN l fl w)) _ ?_ ?_ 0 (by omega)
      · refine Ev.step (fun k => spec_HeldUp.l1.eq_2 ..) (Ev.neg (by omega) ?_)
        simp only [List.take_length, hnext]
        refine Ev.ite (fun c => Ev.bd (ev_spec_Aboard l w fl hm) (Ev.ite (fun c2 => ?_) (fun c2 => Ev.pos (by omega) ?_))) (fun c => ?_)
        · rw [if_neg (by simp [heldW, c, c2])] at ih
          exact ih
        · rw [if_pos (by simp [heldW, c, c2])] at ih
          exact ih
        · rw [if_neg (by simp [heldW, c])] at ih
          exact ih
      · intro j hj ihj
        have any1 : (l.take (j + 1)).any (ownsN l fl w) = ((l.take j).any (ownsN l fl w) || ownsN l fl w (l.getD j z25)) := any_snoc l _ j hj
        rw [any1] at ihj
        refine Ev.step (fun k => spec_HeldUp.l1.eq_2 ..) (Ev.pos (by omega) (Ev.pos (by omega) ?_))
        simp only [rd_nat]
        generalize (l.take j).any (ownsN l fl w) = x7 at ihj
        generalize hn : l.getD j z25 = n at ihj
        refine Ev.ite (fun c1 => Ev.step (fun k => spec_HeldUp.j2.eq_2 ..) (Ev.ite (fun c2 => ?_) (fun c2 => ?_))) (fun c1 => Ev.step (fun k => spec_HeldUp.j2.eq_2 ..) (Ev.pos rfl ?_))
        · have : ownsN l fl w n = false := by
            have : (n.f2 == w) = false := by simpa using c2
            simp [ownsN, this]
          rw [this, Bool.or_false] at ihj
          simp only [wrap_succ j (by omega)]
          exact ihj
        · have hf2 : (n.f2 == w) = true := by simpa using c2
          refine Ev.pos (by omega) (Ev.pos (by omega) ?_)
          simp only [rd_nat, hn, wrap_succ j (by omega)]
          refine Ev.bd (ev_spec_OwnerOf l _ hm) ?_
          have hown : ownsN l fl w n = ((ownerOf l n.f3).2.2 && ((ownerOf l n.f3).1 == w && ((ownerOf l n.f3).2.1 == fl && !pulled l n.f3 fl))) := by
            unfold ownsN
            rw [hf2, show (n.f1 == 1) = true from beq_iff_eq.2 c1]
            simp
          rw [hown] at ihj
          generalize ownerOf l n.f3 = o at ihj
          refine Ev.ite (fun c3 => ?_) (fun c3 => Ev.ite (fun c4 => Ev.ite (fun c5 => Ev.ite (fun c6 => Ev.bd (ev_spec_Pulled l _ _ hm) ?_) (fun c6 => ?_)) (fun c5 => ?_)) (fun c4 => ?_))
          · rw [c3, Bool.true_or] at ihj
            exact ihj
          · simp only [c3, c4, c5, c6, beq_self_eq_true, Bool.true_and, Bool.false_or, Bool.eq_false_iff.2 c3] at ihj
            exact ihj
          · have : (o.2.1 == fl) = false := beq_eq_false_iff_ne.2 c6
            simp only [this, Bool.false_and, Bool.and_false, Bool.or_false, Bool.eq_false_iff.2 c3] at ihj
            exact ihj
          · have : (o.1 == w) = false := beq_eq_false_iff_ne.2 c5
            simp only [this, Bool.false_and, Bool.and_false, Bool.or_false, Bool.eq_false_iff.2 c3] at ihj
            exact ihj
          · simp only [Bool.eq_false_iff.2 c4, Bool.false_and, Bool.or_false, Bool.eq_false_iff.2 c3] at ihj
            exact ihj
        · have : ownsN l fl w n = false := by
            have : (n.f1 == 1) = false := beq_eq_false_iff_ne.2 c1
            simp [ownsN, this]
          rw [this, Bool.or_false] at ihj
          simp only [wrap_succ j (by omega)]
          exact ihj
  · rw [if_neg h]
    exact Ev.now _
def upQ (l : List Nt) (fl : Int) (n : Nt) : Bool := (n.f1 == 1 && (ownerOf l n.f3).2.1 == fl) && (!pulled l n.f3 fl && !aboard l (ownerOf l n.f3).1 fl)
def ups (l : List Nt) (fl : Int) (q : List Nt) : List Int := (q.filter (upQ l fl)).map (fun n => (ownerOf l n.f3).1)
theorem lastP_some {p : Nt → Bool} {l : List Nt} {m : Nt} (h : lastP p l = some m) : m ∈ l ∧ p m = true := by
  unfold lastP at h
  exact ⟨List.mem_reverse.1 (List.mem_of_find?_eq_some h), List.find?_some h⟩
theorem lastP_has {p : Nt → Bool} {l : List Nt} {n : Nt} (hn : n ∈ l) (hp : p n = true) : ∃ m, lastP p l = some m := by
  cases h : lastP p l with
  | some m => exact ⟨m, rfl⟩
  | none =>
    unfold lastP at h
    rw [List.find?_eq_none] at h
    exact absurd hp (h n (List.mem_reverse.2 hn))
/-- A bag that stands in the list has an owner, told by a note of its own. -/
theorem owner_note {l : List Nt} (h : notesOk l = true) {n : Nt} (hn : n ∈ l) (h1 : n.f1 = 1) : ∃ m, m ∈ l ∧ m.f1 = 1 ∧ m.f3 = n.f3 ∧ ownerOf l n.f3 = (m.f2, m.f4, true) := by
  obtain ⟨m, hm⟩ := lastP_has (p := ownerP n.f3) hn (by simp [ownerP, h1])
  obtain ⟨h2, h3⟩ := lastP_some hm
  simp only [ownerP, Bool.and_eq_true, beq_iff_eq] at h3
  refine ⟨m, h2, h3.1, h3.2, ?_⟩
  unfold ownerOf lastN
  rw [if_pos h, hm]
theorem who_range {l : List Nt} (h : notesOk l = true) {m : Nt} (hm : m ∈ l) (h1 : m.f1 = 1) : 1 ≤ m.f2 ∧ m.f2 ≤ 1000 := by
  obtain ⟨j, hj, rfl⟩ := List.getElem_of_mem hm
  have := (notesOk_get h j hj).1
  rw [List.getD_eq_getElem?_getD, List.getElem?_eq_getElem hj] at this
  simp only [Option.getD_some, noteOk, h1, if_true, Bool.and_eq_true] at this
  exact inB_true.1 this.2.2.1
theorem held_eq (l : List Nt) (fl : Int) (h : notesOk l = true) : Go.Lib.compact ((ups l fl l).mergeSort fun x y => decide (x ≤ y)) = heldS l fl 1001 := by
  obtain ⟨h1, h2⟩ := compact_asc (ups l fl l)
  refine asc_ext _ _ h1 (range_asc _ _) (fun x => ?_)
  rw [h2]
  simp only [ups, List.mem_map, List.mem_filter, heldS, List.mem_range]
  constructor
  · rintro ⟨n, ⟨hn, hq⟩, rfl⟩
    simp only [upQ, Bool.and_eq_true, beq_iff_eq] at hq
    obtain ⟨⟨q1, q2⟩, q3, q4⟩ := hq
    obtain ⟨m, m1, m2, m3, m4⟩ := owner_note h hn q1
    have hr := who_range h m1 m2
    rw [m4] at q2 q4 ⊢
    simp only at q2 q4 ⊢
    refine ⟨m.f2.toNat, ⟨by omega, ?_⟩, by omega⟩
    have hc : ((m.f2.toNat : Nat) : Int) = m.f2 := by omega
    rw [hc]
    simp only [Bool.and_eq_true, decide_eq_true_eq, heldW, List.any_eq_true]
    refine ⟨by omega, ⟨m, m1, ?_⟩, q4⟩
    simp only [ownsN, m3, m4, m2, beq_self_eq_true, Bool.and_true, Bool.true_and, Bool.and_eq_true, beq_iff_eq]
    exact ⟨q2, q3⟩
  · rintro ⟨w, ⟨hw, hq⟩, rfl⟩
    simp only [Bool.and_eq_true, decide_eq_true_eq, heldW, List.any_eq_true] at hq
    obtain ⟨_, ⟨n, hn, ho⟩, hab⟩ := hq
    simp only [ownsN, Bool.and_eq_true, beq_iff_eq] at ho
    obtain ⟨⟨o1, o2⟩, o3, o4, o5, o6⟩ := ho
    refine ⟨n, ⟨hn, ?_⟩, o4⟩
    simp only [upQ, Bool.and_eq_true, beq_iff_eq]
    exact ⟨⟨o1, o5⟩, o6, by rw [o4]; exact hab⟩
theorem ev_impl_HeldUp (l : List Nt) (fl : Int) (hl : l.length ≤ 1048576) : Ev (fun k => impl_HeldUp.f k l fl) (held l fl) := by
  have hm : l.length ≤ maxLen := by unfold maxLen; omega
  unfold impl_HeldUp.f held
  refine Ev.bd (ev_impl_NotesOk l hm) (Ev.ite (fun h => ?_) (fun h => ?_))
  · rw [if_pos h, ← held_eq l fl h]
    have h0 : ([] : List Int) = ups l fl (l.take 0) := by simp [ups]
    rw [h0]
    refine up_state (fun k s i => impl_HeldUp.l0 k l fl s l (l.length : Int) i) l.length (fun i => ups l fl (l.take i)) _ ?_ ?_ 0 (by omega)
    · refine Ev.step (fun k => impl_HeldUp.l0.eq_2 ..) (Ev.neg (by omega) ?_)
      simp only [List.take_length]
      have hlen : (ups l fl l).length ≤ l.length := by unfold ups; rw [List.length_map]; exact List.length_filter_le _ _
      unfold slices_Sort_int_int.f slices_Compact_int_int.f
      rw [if_pos (by omega)]
      exact Ev.bs (Ev.bs (Ev.now _))
    · intro i hi ih
      have hlen : (ups l fl (l.take i)).length ≤ i := by unfold ups; rw [List.length_map]; exact Nat.le_trans (List.length_filter_le _ _) (by rw [List.length_take]; omega)
      have ht : ups l fl (l.take (i + 1)) = ups l fl (l.take i) ++ ups l fl [l.getD i z25] := by
        rw [List.take_succ_eq_append_getElem hi, List.getD_eq_getElem?_getD, List.getElem?_eq_getElem hi]
        unfold ups
        rw [List.filter_append, List.map_append]
        rfl
      rw [ht] at ih
      refine Ev.step (fun k => impl_HeldUp.l0.eq_2 ..) (Ev.pos (by omega) (Ev.pos (by omega) (Ev.pos (by omega) ?_)))
      simp only [rd_nat, wrap_succ i (by omega)]
      generalize l.getD i z25 = n at ih
      have yes : upQ l fl n = true → ups l fl [n] = [(ownerOf l n.f3).1] := fun h => by simp [ups, h]
      have no : upQ l fl n = false → ups l fl [n] = [] := fun h => by simp [ups, h]
      refine Ev.ite (fun c1 => Ev.bd (ev_impl_OwnerOf l _ hm) (Ev.ite (fun c2 => Ev.bd (ev_impl_Pulled l _ _ hm) (Ev.ite (fun c3 => ?_) (fun c3 => Ev.bd (ev_impl_Aboard l _ _ hm) (Ev.ite (fun c4 => ?_) (fun c4 => Ev.pos (by omega) ?_))))) (fun c2 => ?_))) (fun c1 => ?_)
      · rw [no (by simp [upQ, c3]), List.append_nil] at ih
        exact ih
      · rw [no (by simp [upQ, c4]), List.append_nil] at ih
        exact ih
      · rw [yes (by simp [upQ, c1, c2, c3, c4])] at ih
        exact ih
      · rw [no (by simp [upQ, c2]), List.append_nil] at ih
        exact ih
      · rw [no (by simp [upQ, c1]), List.append_nil] at ih
        exact ih
  · rw [if_neg h]
    exact Ev.now _
theorem held_len (l : List Nt) (fl : Int) : (held l fl).length ≤ 1001 := by
  unfold held
  split
  · exact heldS_len l fl 1001
  · simp
end Go.Proofs.Ytppojihmllmgnaa.F
