/- OwnerOf, Aboard, Pulled and MayFly of the program and of the reference: what they compute. No condition. -/
import Derived.Test.YtppojihmllmgnaaNoteHarness
import Derived.Test.YtppojihmllmgnaaF37
import Derived.Test.YtppojihmllmgnaaF36
import Derived.Test.YtppojihmllmgnaaF35
namespace Go.Proofs.Ytppojihmllmgnaa.F
open Go.RowKit Go.Proofs.YtppojihmllmgnaaW.PrintWords Go.Proofs.YtppojihmllmgnaaW.PrintLast Go.Proofs.Ytppojihmllmgnaa.Opn
set_option linter.unusedVariables false
set_option linter.unusedSimpArgs false
theorem lastP_take {α : Type} (p : α → Bool) (l : List α) (d : α) (m : Nat) (h : m < l.length) : lastP p (l.take (m + 1)) = if p (l.getD m d) = true then some (l.getD m d) else lastP p (l.take m) := by
  have : l.getD m d = l[m] := by rw [List.getD_eq_getElem?_getD, List.getElem?_eq_getElem h]; rfl
  unfold lastP
  rw [List.take_succ_eq_append_getElem h, List.reverse_append, this]
  simp only [List.reverse_cons, List.reverse_nil, List.nil_append, List.cons_append, List.find?_cons]
  cases p l[m] <;> simp
def lastN (p : Nt → Bool) (l : List Nt) : Option Nt := if notesOk l = true then lastP p l else none
def aboardP (a1 a2 : Int) (x : Nt) : Bool := ((x.f1 == 2 || x.f1 == 3) && x.f2 == a1) && x.f4 == a2
def pulledP (a1 a2 : Int) (x : Nt) : Bool := ((x.f1 == 1 || x.f1 == 4) && x.f3 == a1) && x.f4 == a2
def ownerP (a1 : Int) (x : Nt) : Bool := x.f1 == 1 && x.f3 == a1
def aboard (l : List Nt) (a1 a2 : Int) : Bool := match lastN (aboardP a1 a2) l with | some x => x.f1 == 2 | none => false
def pulled (l : List Nt) (a1 a2 : Int) : Bool := match lastN (pulledP a1 a2) l with | some x => x.f1 == 4 | none => false
def ownerOf (l : List Nt) (a1 : Int) : Int × Int × Bool := match lastN (ownerP a1) l with | some x => (x.f2, x.f4, true) | none => (0, 0, false)
def mayFly (l : List Nt) (a1 a2 : Int) : Bool := (ownerOf l a1).2.2 && ((ownerOf l a1).2.1 == a2 && (aboard l (ownerOf l a1).1 a2 && !pulled l a1 a2))

theorem spec_Aboard_l0 (l : List Nt) (a1 a2 : Int) (hm : l.length ≤ maxLen) : ∀ m, m ≤ l.length → Ev (fun k => spec_Aboard.l0 k l a1 a2 ((m : Int) - 1)) (match (if notesOk l = true then lastP (aboardP a1 a2) (l.take m) else none) with | some x => x.f1 == 2 | none => false) := by
  unfold maxLen at hm
  intro m
  induction m with
  | zero =>
    intro _
    refine Ev.step (fun k => spec_Aboard.l0.eq_2 ..) (Ev.neg (by omega) (Ev.step (fun k => spec_Aboard.j1.eq_2 ..) (Ev.neg (by simp) (Ev.some_ ?_))))
    cases notesOk l <;> simp [lastP]
  | succ m ih =>
    intro hl
    have ih := ih (by omega)
    have hi : (((m + 1 : Nat) : Int) - 1) = (m : Int) := by omega
    rw [hi]
    refine Ev.step (fun k => spec_Aboard.l0.eq_2 ..) (Ev.pos (by omega) (Ev.bd (ev_spec_NotesOk l) (Ev.step (fun k => spec_Aboard.j1.eq_2 ..) ?_)))
    cases hn : notesOk l with
    | false => exact Ev.neg (by simp) (Ev.some_ (by simp))
    | true =>
      refine Ev.pos rfl (Ev.pos (by omega) (Ev.pos (by omega) ?_))
      rw [hn] at ih
      simp only [if_true, rd_nat] at ih ⊢
      rw [lastP_take _ l z25 m (by omega)]
      have hw : wrap64 ((m : Int) - 1) = (m : Int) - 1 := wrap_id (by omega) (by omega)
      rw [hw]
      generalize l.getD m z25 = x
      refine Ev.ite (fun h2 => ?_) (fun h2 => Ev.ite (fun h3 => ?_) (fun h3 => ?_))
      · refine Ev.ite (fun hw => Ev.ite (fun hf => Ev.some_ ?_) (fun hf => ?_)) (fun hw => ?_)
        · simp [aboardP, h2, hw, hf]
        · simpa [aboardP, h2, hw, hf] using ih
        · simpa [aboardP, h2, hw] using ih
      · refine Ev.ite (fun hw => Ev.ite (fun hf => Ev.some_ ?_) (fun hf => ?_)) (fun hw => ?_)
        · simp [aboardP, h3, hw, hf]
        · simpa [aboardP, h3, hw, hf] using ih
        · simpa [aboardP, h3, hw] using ih
      · simpa [aboardP, h2, h3] using ih
theorem ev_spec_Aboard (l : List Nt) (a1 a2 : Int) (hm : l.length ≤ maxLen) : Ev (fun k => spec_Aboard.f k l a1 a2) (aboard l a1 a2) := by
  have h := spec_Aboard_l0 l a1 a2 hm l.length (Nat.le_refl _)
  unfold maxLen at hm
  unfold spec_Aboard.f aboard lastN
  rw [wrap_id (by omega) (by omega)]
  simpa using h
theorem spec_Pulled_l0 (l : List Nt) (a1 a2 : Int) (hm : l.length ≤ maxLen) : ∀ m, m ≤ l.length → Ev (fun k => spec_Pulled.l0 k l a1 a2 ((m : Int) - 1)) (match (if notesOk l = true then lastP (pulledP a1 a2) (l.take m) else none) with | some x => x.f1 == 4 | none => false) := by
  unfold maxLen at hm
  intro m
  induction m with
  | zero =>
    intro _
    refine Ev.step (fun k => spec_Pulled.l0.eq_2 ..) (Ev.neg (by omega) (Ev.step (fun k => spec_Pulled.j1.eq_2 ..) (Ev.neg (by simp) (Ev.some_ ?_))))
    cases notesOk l <;> simp [lastP]
  | succ m ih =>
    intro hl
    have ih := ih (by omega)
    have hi : (((m + 1 : Nat) : Int) - 1) = (m : Int) := by omega
    rw [hi]
    refine Ev.step (fun k => spec_Pulled.l0.eq_2 ..) (Ev.pos (by omega) (Ev.bd (ev_spec_NotesOk l) (Ev.step (fun k => spec_Pulled.j1.eq_2 ..) ?_)))
    cases hn : notesOk l with
    | false => exact Ev.neg (by simp) (Ev.some_ (by simp))
    | true =>
      refine Ev.pos rfl (Ev.pos (by omega) (Ev.pos (by omega) ?_))
      rw [hn] at ih
      simp only [if_true, rd_nat] at ih ⊢
      rw [lastP_take _ l z25 m (by omega)]
      have hw : wrap64 ((m : Int) - 1) = (m : Int) - 1 := wrap_id (by omega) (by omega)
      rw [hw]
      generalize l.getD m z25 = x
      refine Ev.ite (fun h2 => ?_) (fun h2 => Ev.ite (fun h3 => ?_) (fun h3 => ?_))
      · refine Ev.ite (fun hw => Ev.ite (fun hf => Ev.some_ ?_) (fun hf => ?_)) (fun hw => ?_)
        · simp [pulledP, h2, hw, hf]
        · simpa [pulledP, h2, hw, hf] using ih
        · simpa [pulledP, h2, hw] using ih
      · refine Ev.ite (fun hw => Ev.ite (fun hf => Ev.some_ ?_) (fun hf => ?_)) (fun hw => ?_)
        · simp [pulledP, h3, hw, hf]
        · simpa [pulledP, h3, hw, hf] using ih
        · simpa [pulledP, h3, hw] using ih
      · simpa [pulledP, h2, h3] using ih
theorem ev_spec_Pulled (l : List Nt) (a1 a2 : Int) (hm : l.length ≤ maxLen) : Ev (fun k => spec_Pulled.f k l a1 a2) (pulled l a1 a2) := by
  have h := spec_Pulled_l0 l a1 a2 hm l.length (Nat.le_refl _)
  unfold maxLen at hm
  unfold spec_Pulled.f pulled lastN
  rw [wrap_id (by omega) (by omega)]
  simpa using h
theorem spec_OwnerOf_l0 (l : List Nt) (a1 : Int) (hm : l.length ≤ maxLen) : ∀ m, m ≤ l.length → Ev (fun k => spec_OwnerOf.l0 k l a1 ((m : Int) - 1)) (match (if notesOk l = true then lastP (ownerP a1) (l.take m) else none) with | some x => (x.f2, x.f4, true) | none => (0, 0, false)) := by
  unfold maxLen at hm
  intro m
  induction m with
  | zero =>
    intro _
    refine Ev.step (fun k => spec_OwnerOf.l0.eq_2 ..) (Ev.neg (by omega) (Ev.step (fun k => spec_OwnerOf.j1.eq_2 ..) (Ev.neg (by simp) (Ev.some_ ?_))))
    cases notesOk l <;> simp [lastP]
  | succ m ih =>
    intro hl
    have ih := ih (by omega)
    have hi : (((m + 1 : Nat) : Int) - 1) = (m : Int) := by omega
    rw [hi]
    refine Ev.step (fun k => spec_OwnerOf.l0.eq_2 ..) (Ev.pos (by omega) (Ev.bd (ev_spec_NotesOk l) (Ev.step (fun k => spec_OwnerOf.j1.eq_2 ..) ?_)))
    cases hn : notesOk l with
    | false => exact Ev.neg (by simp) (Ev.some_ (by simp))
    | true =>
      refine Ev.pos rfl (Ev.pos (by omega) (Ev.pos (by omega) ?_))
      rw [hn] at ih
      simp only [if_true, rd_nat] at ih ⊢
      rw [lastP_take _ l z25 m (by omega)]
      have hw : wrap64 ((m : Int) - 1) = (m : Int) - 1 := wrap_id (by omega) (by omega)
      rw [hw]
      generalize l.getD m z25 = x
      refine Ev.ite (fun h2 => Ev.ite (fun h3 => Ev.some_ ?_) (fun h3 => ?_)) (fun h2 => ?_)
      · simp [ownerP, h2, h3]
      · simpa [ownerP, h2, h3] using ih
      · simpa [ownerP, h2] using ih
theorem ev_spec_OwnerOf (l : List Nt) (a1 : Int) (hm : l.length ≤ maxLen) : Ev (fun k => spec_OwnerOf.f k l a1) (ownerOf l a1) := by
  have h := spec_OwnerOf_l0 l a1 hm l.length (Nat.le_refl _)
  unfold maxLen at hm
  unfold spec_OwnerOf.f ownerOf lastN
  rw [wrap_id (by omega) (by omega)]
  simpa using h
theorem ev_impl_Aboard (l : List Nt) (a1 a2 : Int) (hm : l.length ≤ maxLen) : Ev (fun k => impl_Aboard.f k l a1 a2) (aboard l a1 a2) := by
  unfold impl_Aboard.f impl_Aboard_1__impl_lastNote.f aboard lastN
  refine Ev.bd (Ev.bd (ev_impl_NotesOk l hm) (Ev.now _)) (Ev.some_ ?_)
  show (((if notesOk l = true then lastP (aboardP a1 a2) l else none).getD _).f1 == 2) = _
  cases (if notesOk l = true then lastP (aboardP a1 a2) l else none) <;> rfl
theorem ev_impl_Pulled (l : List Nt) (a1 a2 : Int) (hm : l.length ≤ maxLen) : Ev (fun k => impl_Pulled.f k l a1 a2) (pulled l a1 a2) := by
  unfold impl_Pulled.f impl_Pulled_1__impl_lastNote.f pulled lastN
  refine Ev.bd (Ev.bd (ev_impl_NotesOk l hm) (Ev.now _)) (Ev.some_ ?_)
  show (((if notesOk l = true then lastP (pulledP a1 a2) l else none).getD _).f1 == 4) = _
  cases (if notesOk l = true then lastP (pulledP a1 a2) l else none) <;> rfl
theorem ev_impl_OwnerOf (l : List Nt) (a1 : Int) (hm : l.length ≤ maxLen) : Ev (fun k => impl_OwnerOf.f k l a1) (ownerOf l a1) := by
  unfold impl_OwnerOf.f impl_OwnerOf_1__impl_lastNote.f ownerOf lastN
  refine Ev.bd (Ev.bd (ev_impl_NotesOk l hm) (Ev.now _)) (Ev.some_ ?_)
  show (((if notesOk l = true then lastP (ownerP a1) l else none).getD _).f2, ((if notesOk l = true then lastP (ownerP a1) l else none).getD _).f4, (if notesOk l = true then lastP (ownerP a1) l else none).isSome) = _
  cases (if notesOk l = true then lastP (ownerP a1) l else none) <;> rfl
theorem ev_spec_MayFly (l : List Nt) (a1 a2 : Int) (hm : l.length ≤ maxLen) : Ev (fun k => spec_MayFly.f k l a1 a2) (mayFly l a1 a2) := by
  unfold spec_MayFly.f mayFly
  refine Ev.bd (ev_spec_OwnerOf l a1 hm) ?_
  generalize ownerOf l a1 = o
  refine Ev.ite (fun h1 => Ev.ite (fun h2 => Ev.bd (ev_spec_Aboard l _ _ hm) (Ev.ite (fun h3 => Ev.bd (ev_spec_Pulled l _ _ hm) (Ev.some_ ?_)) (fun h3 => Ev.some_ ?_))) (fun h2 => Ev.some_ ?_)) (fun h1 => Ev.some_ ?_)
  · simp [h1, h2, h3]
  · simp [h1, h2, h3]
  · simp [h1, h2]
  · simp [h1]
theorem ev_impl_MayFly (l : List Nt) (a1 a2 : Int) (hm : l.length ≤ maxLen) : Ev (fun k => impl_MayFly.f k l a1 a2) (mayFly l a1 a2) := by
  unfold impl_MayFly.f mayFly
  refine Ev.bd (ev_impl_OwnerOf l a1 hm) ?_
  generalize ownerOf l a1 = o
  refine Ev.ite (fun h1 => Ev.ite (fun h2 => Ev.bd (ev_impl_Aboard l _ _ hm) (Ev.ite (fun h3 => Ev.bd (ev_impl_Pulled l _ _ hm) (Ev.some_ ?_)) (fun h3 => Ev.some_ ?_))) (fun h2 => Ev.some_ ?_)) (fun h1 => Ev.some_ ?_)
  · simp [h1, h2, h3]
  · simp [h1, h2, h3]
  · simp [h1, h2]
  · simp [h1]
end Go.Proofs.Ytppojihmllmgnaa.F
