/- A bag may fly just if its last owner goes with the flight, is aboard, and the bag was not pulled since: the pure statement. No condition. -/
import Derived.Test.YtppojihmllmgnaaStFnMayFly
import Derived.Test.YtppojihmllmgnaaEvMore
import Derived.Test.YtppojihmllmgnaaF84
import Derived.Test.YtppojihmllmgnaaF99
import Derived.Test.YtppojihmllmgnaaF87
import Derived.Test.YtppojihmllmgnaaF89
import Derived.Test.YtppojihmllmgnaaF100
import Derived.Test.YtppojihmllmgnaaF23
import Derived.Test.YtppojihmllmgnaaF25
import Derived.Test.YtppojihmllmgnaaF78
import Derived.Test.YtppojihmllmgnaaF70
import Derived.Test.YtppojihmllmgnaaF88
import Derived.Test.YtppojihmllmgnaaF37
import Derived.Test.YtppojihmllmgnaaF36
import Derived.Lib.SlicesCompact
import Derived.Test.YtppojihmllmgnaaF54
import Derived.Test.YtppojihmllmgnaaF53
import Derived.Test.YtppojihmllmgnaaF44
import Derived.Test.YtppojihmllmgnaaF42
namespace Go.Proofs.Ytppojihmllmgnaa.F
open Go.RowKit Go.Proofs.YtppojihmllmgnaaW.PrintWords Go.Proofs.YtppojihmllmgnaaW.PrintLast Go.Proofs.Ytppojihmllmgnaa.Opn
set_option linter.unusedVariables false
set_option linter.unusedSimpArgs false
theorem and_255 (y : Int) : 0 ≤ Go.bits .and .i64 y 255 ∧ Go.bits .and .i64 y 255 ≤ 255 := by
  have h3 : (BitVec.ofInt 64 y &&& BitVec.ofInt 64 255).toNat ≤ 255 := by
    rw [BitVec.toNat_and]
    exact Nat.and_le_right
  have e : Go.bits .and .i64 y 255 = IntKind.i64.wrap (((BitVec.ofInt 64 y &&& BitVec.ofInt 64 255).toNat : Nat) : Int) := rfl
  rw [e]
  generalize (BitVec.ofInt 64 y &&& BitVec.ofInt 64 255).toNat = n at h3
  have : IntKind.i64.wrap (n : Int) = (n : Int) := by
    simp [IntKind.wrap, IntKind.bits, IntKind.signed]
    omega
  rw [this]; omega
/-- Where the cursor may stand. -/
def Cok (b : List Int) (i : Int) : Prop := 0 ≤ i ∧ i ≤ (b.length : Int)
theorem d_byte (b : List Int) (hb : b.length ≤ 1048576) (i h : Int) (hi : Cok b i) : ∃ x i' h', spec_l01Byte.f b i h = some (x, i', h') ∧ 0 ≤ x ∧ x ≤ 255 ∧ Cok b i' := by
  obtain ⟨h0, h1⟩ := hi
  unfold spec_l01Byte.f
  by_cases c : i < (b.length : Int)
  · rw [if_pos c, if_pos h0]
    refine ⟨_, _, _, rfl, (and_255 _).1, (and_255 _).2, ?_⟩
    rw [wrap_id (by omega) (by omega)]
    exact ⟨by omega, by omega⟩
  · rw [if_neg c]
    exact ⟨_, _, _, rfl, (and_255 _).1, (and_255 _).2, h0, h1⟩
theorem tmod_in (x n : Int) (hx : 0 ≤ x) (hn : 0 < n) : 0 ≤ Int.tmod x n ∧ Int.tmod x n < n := ⟨Int.tmod_nonneg n hx, Int.tmod_lt_of_pos x hn⟩
theorem d_below (b : List Int) (hb : b.length ≤ 1048576) (i h n : Int) (hi : Cok b i) : ∃ x i' h', spec_l01Below.f b i h n = some (x, i', h') ∧ 0 ≤ x ∧ (x < n ∨ x = 0) ∧ (0 < n → x < n) ∧ Cok b i' := by
  unfold spec_l01Below.f
  by_cases c : n ≤ 0
  · rw [if_pos c]
    exact ⟨_, _, _, rfl, by omega, .inr rfl, fun h => by omega, hi⟩
  · rw [if_neg c]
    by_cases c2 : n ≤ 256
    · rw [if_pos c2]
      obtain ⟨x, i', h', e, h1, h2, h3⟩ := d_byte b hb i h hi
      rw [e]
      simp only [Option.bind_some]
      rw [if_neg (by omega)]
      have := tmod_in x n h1 (by omega)
      exact ⟨_, _, _, rfl, this.1, .inl this.2, fun _ => this.2, h3⟩
    · rw [if_neg c2]
      obtain ⟨x1, i1, h1, e1, a1, a1', a1''⟩ := d_byte b hb i h hi
      obtain ⟨x2, i2, h2, e2, a2, a2', a2''⟩ := d_byte b hb i1 h1 a1''
      obtain ⟨x3, i3, h3, e3, a3, a3', a3''⟩ := d_byte b hb i2 h2 a2''
      obtain ⟨x4, i4, h4, e4, a4, a4', a4''⟩ := d_byte b hb i3 h3 a3''
      rw [e1]; simp only [Option.bind_some]
      rw [e2]; simp only [Option.bind_some]
      rw [e3]; simp only [Option.bind_some]
      rw [e4]; simp only [Option.bind_some]
      rw [if_neg (by omega)]
      rw [wrap_id (x := x1 * 16777216) (by omega) (by omega), wrap_id (x := x2 * 65536) (by omega) (by omega), wrap_id (x := x3 * 256) (by omega) (by omega), wrap_id (x := x1 * 16777216 + x2 * 65536) (by omega) (by omega), wrap_id (x := x1 * 16777216 + x2 * 65536 + x3 * 256) (by omega) (by omega), wrap_id (by omega) (by omega)]
      have := tmod_in (x1 * 16777216 + x2 * 65536 + x3 * 256 + x4) n (by omega) (by omega)
      exact ⟨_, _, _, rfl, this.1, .inl this.2, fun _ => this.2, a4''⟩
theorem d_once (b : List Int) (hb : b.length ≤ 1048576) (i h n : Int) (hi : Cok b i) : ∃ x i' h', spec_l01Once.f b i h n = some (x, i', h') ∧ Cok b i' := by
  obtain ⟨x, i', h', e, _, _, _, hc⟩ := d_below b hb i h n hi
  unfold spec_l01Once.f
  rw [e]
  exact ⟨_, _, _, rfl, hc⟩
theorem d_pick (b : List Int) (hb : b.length ≤ 1048576) (i h : Int) (l : List Int) (hl : 0 < l.length) (hi : Cok b i) : ∃ x i' h', spec_l01PickInt.f b i h l = some (x, i', h') ∧ x ∈ l ∧ Cok b i' := by
  obtain ⟨x, i', h', e, h0, _, h1, hc⟩ := d_below b hb i h (l.length : Int) hi
  have h1 := h1 (by omega)
  unfold spec_l01PickInt.f
  rw [e]
  simp only [Option.bind_some]
  rw [if_pos h0, if_pos h1]
  refine ⟨_, _, _, rfl, ?_, hc⟩
  obtain ⟨n, rfl⟩ := Int.eq_ofNat_of_zero_le h0
  have hn : n < l.length := by omega
  rw [rd_natI, List.getD_eq_getElem?_getD, List.getElem?_eq_getElem hn]
  exact List.getElem_mem hn
theorem ev_new (b : List Int) (hb : b.length ≤ 1048576) : ∃ h, Ev (fun k => spec_l01New.f k b) (b, 0, h) := by
  unfold spec_l01New.f
  have key : ∀ d (i : Nat), i ≤ b.length → b.length - i = d → ∀ h, ∃ h', Ev (fun k => spec_l01New.l0 k b h (i : Int)) (b, 0, h') := by
    intro d
    induction d with
    | zero =>
      intro i hi hd h
      exact ⟨h, Ev.step (fun k => spec_l01New.l0.eq_2 ..) (Ev.neg (by omega) (Ev.now _))⟩
    | succ d ih =>
      intro i hi hd h
      by_cases c : (i : Int) < 4000
      · obtain ⟨h', hh⟩ := ih (i + 1) (by omega) (by omega) (Go.bits .and .i64 (wrap64 ((wrap64 ((wrap64 (h * 131)) + (wrap64 (rd b (i : Int))))) + 7)) 1073741823)
        refine ⟨h', Ev.step (fun k => spec_l01New.l0.eq_2 ..) (Ev.pos (by omega) (Ev.pos c (Ev.pos (by omega) ?_)))⟩
        simp only [wrap_succ i (by omega)]
        exact hh
      · exact ⟨h, Ev.step (fun k => spec_l01New.l0.eq_2 ..) (Ev.pos (by omega) (Ev.neg c (Ev.now _)))⟩
  exact key _ 0 (by omega) rfl _
theorem cok_zero (b : List Int) : Cok b 0 := ⟨by omega, by omega⟩
/-- A draw that stands for itself, ahead of what follows. -/
theorem Ev.bd' {α β : Type} {o : Option α} {f : Nat → α → Option β} {a : α} {r : β} (h : o = some a) (k : Ev (fun n => f n a) r) : Ev (fun n => o.bind (f n)) r := by rw [h]; exact k
end Go.Proofs.Ytppojihmllmgnaa.F
namespace Go.Proofs.Ytppojihmllmgnaa.F
open Go.RowKit Go.Proofs.YtppojihmllmgnaaW.PrintWords Go.Proofs.YtppojihmllmgnaaW.PrintLast Go.Proofs.Ytppojihmllmgnaa.Opn
set_option linter.unusedVariables false
set_option linter.unusedSimpArgs false
abbrev Nt := S25
def inB (a b c : Int) : Bool := decide (b ≤ a) && decide (a ≤ c)
theorem inB_true {a b c : Int} : inB a b c = true ↔ b ≤ a ∧ a ≤ c := by simp [inB]
theorem inB_false {a b c : Int} : inB a b c = false ↔ ¬ (b ≤ a ∧ a ≤ c) := by rw [← inB_true]; simp
def noteOk (n : Nt) : Bool := inB n.f0 1 10000 && (inB n.f4 1 20 &&
  (if n.f1 = 1 then inB n.f2 1 1000 && inB n.f3 1 1000 else if n.f1 = 2 then inB n.f2 1 1000 && n.f3 == 0 else if n.f1 = 3 then inB n.f2 1 1000 && n.f3 == 0
    else if n.f1 = 4 then n.f2 == 0 && inB n.f3 1 1000 else false))
theorem l01In_eq (a b c : Int) : spec_l01In.f a b c = some (inB a b c) := by
  unfold spec_l01In.f inB
  by_cases h : a ≥ b <;> simp [h]
theorem isFrom1_eq (a c : Int) : impl_isFrom1.f a c = some (inB a 1 c) := by
  unfold impl_isFrom1.f inB
  by_cases h : a ≥ 1 <;> simp [h]

theorem spec_NoteOk_eq (n : Nt) (k : Nat) : spec_NoteOk.f (k + 2) n.f0 n.f1 n.f2 n.f3 n.f4 = some (noteOk n) := by
  obtain ⟨a, b, c, d, e⟩ := n
  simp only [spec_NoteOk.f, spec_NoteOk.j0, spec_NoteOk.j1, l01In_eq, noteOk, Option.bind_some]
  generalize inB a 1 10000 = p1
  generalize inB e 1 20 = p2
  generalize inB c 1 1000 = p3
  generalize inB d 1 1000 = p4
  by_cases b1 : b = 1
  · subst b1; cases p1 <;> cases p2 <;> cases p3 <;> cases p4 <;> simp [inB]
  by_cases b2 : b = 2
  · subst b2; cases p1 <;> cases p2 <;> cases p3 <;> simp [inB]
  by_cases b3 : b = 3
  · subst b3; cases p1 <;> cases p2 <;> cases p3 <;> simp [inB]
  by_cases b4 : b = 4
  · subst b4; by_cases hc : c = 0 <;> cases p1 <;> cases p2 <;> cases p4 <;> simp [inB, hc]
  have hb : inB b 1 4 = false := by rw [inB_false]; omega
  rw [hb]
  cases p1 <;> cases p2 <;> simp [b1, b2, b3, b4]
theorem impl_NoteOk_eq (n : Nt) (k : Nat) : impl_NoteOk.f (k + 2) n.f0 n.f1 n.f2 n.f3 n.f4 = some (noteOk n) := by
  obtain ⟨a, b, c, d, e⟩ := n
  simp only [impl_NoteOk.f, impl_NoteOk.j0, impl_NoteOk.j1, isFrom1_eq, noteOk, Option.bind_some]
  generalize inB a 1 10000 = p1
  generalize inB e 1 20 = p2
  generalize inB c 1 1000 = p3
  generalize inB d 1 1000 = p4
  by_cases b1 : b = 1
  · subst b1; cases p1 <;> cases p2 <;> cases p3 <;> cases p4 <;> simp [inB]
  by_cases b2 : b = 2
  · subst b2; cases p1 <;> cases p2 <;> cases p3 <;> simp [inB]
  by_cases b3 : b = 3
  · subst b3; cases p1 <;> cases p2 <;> cases p3 <;> simp [inB]
  by_cases b4 : b = 4
  · subst b4; by_cases hc : c = 0 <;> cases p1 <;> cases p2 <;> cases p4 <;> simp [inB, hc]
  cases p1 <;> cases p2 <;> simp [b1, b2, b3, b4]

/-- Each note is right, and each Seq is greater than the one before it. -/
def okFrom (l : List Nt) (i : Nat) : Bool := (List.range' i (l.length - i)).all fun j => noteOk (l.getD j z25) && (j == 0 || decide ((l.getD (j - 1) z25).f0 < (l.getD j z25).f0))
def notesOk (l : List Nt) : Bool := decide (l.length ≤ 60) && okFrom l 0
theorem okFrom_end (l : List Nt) (i : Nat) (h : l.length ≤ i) : okFrom l i = true := by
  unfold okFrom; rw [show l.length - i = 0 by omega]; rfl
theorem okFrom_step (l : List Nt) (i : Nat) (h : i < l.length) : okFrom l i = (noteOk (l.getD i z25) && (i == 0 || decide ((l.getD (i - 1) z25).f0 < (l.getD i z25).f0)) && okFrom l (i + 1)) := by
  unfold okFrom; rw [show l.length - i = (l.length - (i + 1)) + 1 by omega, List.range'_succ]; rfl
theorem rd_nat (l : List Nt) (i : Nat) : rd_T25 l (i : Int) = l.getD i z25 := by simp [rd_T25]

theorem ev_spec_NoteOk (n : Nt) : Ev (fun k => spec_NoteOk.f k n.f0 n.f1 n.f2 n.f3 n.f4) (noteOk n) := Ev.from_ 2 fun k hk => by
  obtain ⟨k, rfl⟩ : ∃ m, k = m + 2 := ⟨k - 2, by omega⟩
  exact spec_NoteOk_eq n k
theorem ev_impl_NoteOk (n : Nt) : Ev (fun k => impl_NoteOk.f k n.f0 n.f1 n.f2 n.f3 n.f4) (noteOk n) := Ev.from_ 2 fun k hk => by
  obtain ⟨k, rfl⟩ : ∃ m, k = m + 2 := ⟨k - 2, by omega⟩
  exact impl_NoteOk_eq n k
theorem spec_NotesOk_l0 (l : List Nt) (hl : l.length ≤ 60) : ∀ d i, l.length - i = d → i ≤ l.length → Ev (fun k => spec_NotesOk.l0 k l (i : Int)) (okFrom l i) := by
  intro d
  induction d with
  | zero =>
    intro i hd hi
    rw [okFrom_end l i (by omega)]
    refine Ev.step (fun k => spec_NotesOk.l0.eq_2 ..) (Ev.neg (by omega) (Ev.now _))
  | succ d ih =>
    intro i hd hi
    have hn := ih (i + 1) (by omega) (by omega)
    rw [show ((i + 1 : Nat) : Int) = wrap64 ((i : Int) + 1) by rw [wrap_id (by omega) (by omega)]; omega] at hn
    rw [okFrom_step l i (by omega)]
    refine Ev.step (fun k => spec_NotesOk.l0.eq_2 ..) (Ev.pos (by omega) (Ev.pos (by omega) ?_))
    simp only [rd_nat]
    refine Ev.bd (ev_spec_NoteOk _) ?_
    cases hno : noteOk (l.getD i z25) with
    | false => exact Ev.neg (by simp) (Ev.some_ (by simp))
    | true =>
      refine Ev.pos rfl (Ev.ite (fun hp => ?_) (fun hp => ?_))
      · have hw : wrap64 ((i : Int) - 1) = ((i - 1 : Nat) : Int) := by rw [wrap_id (by omega) (by omega)]; omega
        have hi0 : (i == 0) = false := by simpa using (by omega : i ≠ 0)
        simp only [hw, rd_nat, hi0]
        refine Ev.pos (by omega) (Ev.pos (by omega) (Ev.ite (fun hc => Ev.some_ ?_) (fun hc => ?_)))
        · rw [decide_eq_false (by omega)]; simp
        · rw [decide_eq_true (by omega)]; simpa using hn
      · obtain rfl : i = 0 := by omega
        simpa using hn
theorem ev_spec_NotesOk (l : List Nt) : Ev (fun k => spec_NotesOk.f k l) (notesOk l) := by
  unfold spec_NotesOk.f notesOk
  refine Ev.ite (fun h => Ev.some_ ?_) (fun h => ?_)
  · rw [decide_eq_false (by omega), Bool.false_and]
  · rw [decide_eq_true (by omega), Bool.true_and]
    exact spec_NotesOk_l0 l (by omega) l.length 0 (by omega) (by omega)
theorem impl_NotesOk_l0 (l : List Nt) (hm : l.length ≤ maxLen) : ∀ d i, l.length - i = d → i ≤ l.length → Ev (fun k => impl_NotesOk.l0 k l l (l.length : Int) (i : Int)) (okFrom l i && decide (l.length ≤ 60)) := by
  unfold maxLen at hm
  intro d
  induction d with
  | zero =>
    intro i hd hi
    rw [okFrom_end l i (by omega)]
    refine Ev.step (fun k => impl_NotesOk.l0.eq_2 ..) (Ev.neg (by omega) (Ev.some_ ?_))
    rw [Bool.true_and]
    exact decide_eq_decide.2 (by omega)
  | succ d ih =>
    intro i hd hi
    have hn := ih (i + 1) (by omega) (by omega)
    rw [show ((i + 1 : Nat) : Int) = wrap64 ((i : Int) + 1) by rw [wrap_id (by omega) (by omega)]; omega] at hn
    rw [okFrom_step l i (by omega)]
    refine Ev.step (fun k => impl_NotesOk.l0.eq_2 ..) (Ev.pos (by omega) (Ev.pos (by omega) (Ev.pos (by omega) ?_)))
    simp only [rd_nat]
    refine Ev.bd (ev_impl_NoteOk _) ?_
    cases hno : noteOk (l.getD i z25) with
    | false => exact Ev.neg (by simp) (Ev.some_ (by simp))
    | true =>
      refine Ev.pos rfl (Ev.ite (fun hp => ?_) (fun hp => ?_))
      · have hw : wrap64 ((i : Int) - 1) = ((i - 1 : Nat) : Int) := by rw [wrap_id (by omega) (by omega)]; omega
        have hi0 : (i == 0) = false := by simpa using (by omega : i ≠ 0)
        simp only [hw, rd_nat, hi0]
        refine Ev.pos (by omega) (Ev.pos (by omega) (Ev.ite (fun hc => Ev.some_ ?_) (fun hc => ?_)))
        · rw [decide_eq_false (by omega)]; simp
        · rw [decide_eq_true (by omega)]; simpa using hn
      · obtain rfl : i = 0 := by omega
        simpa using hn
theorem ev_impl_NotesOk (l : List Nt) (hm : l.length ≤ maxLen) : Ev (fun k => impl_NotesOk.f k l) (notesOk l) := by
  unfold impl_NotesOk.f notesOk
  rw [Bool.and_comm]
  exact impl_NotesOk_l0 l hm l.length 0 (by omega) (by omega)
end Go.Proofs.Ytppojihmllmgnaa.F
namespace Go.Proofs.Ytppojihmllmgnaa.F
open Go.RowKit Go.Proofs.YtppojihmllmgnaaW.PrintWords Go.Proofs.YtppojihmllmgnaaW.PrintLast Go.Proofs.Ytppojihmllmgnaa.Opn
set_option linter.unusedVariables false
set_option linter.unusedSimpArgs false
/-- A note put in its place. -/
def ins (n : Nt) : List Nt → List Nt
  | [] => [n]
  | x :: xs => if n.f0 < x.f0 then n :: x :: xs else x :: ins n xs
theorem ins_perm (n : Nt) : ∀ l, (ins n l).Perm (l ++ [n])
  | [] => List.Perm.refl _
  | x :: xs => by
    unfold ins
    split
    · exact (List.perm_append_singleton n (x :: xs)).symm
    · exact (ins_perm n xs).cons x
theorem ins_sorted (n : Nt) : ∀ l : List Nt, l.Pairwise (fun a b => a.f0 ≤ b.f0) → (ins n l).Pairwise (fun a b => a.f0 ≤ b.f0)
  | [], _ => List.pairwise_singleton _ _
  | x :: xs, h => by
    rw [List.pairwise_cons] at h
    unfold ins
    split
    · rename_i hlt
      refine List.pairwise_cons.2 ⟨fun y hy => ?_, List.pairwise_cons.2 h⟩
      rcases List.mem_cons.1 hy with rfl | hy
      · omega
      · have := h.1 y hy; omega
    · rename_i hlt
      refine List.pairwise_cons.2 ⟨fun y hy => ?_, ins_sorted n xs h.2⟩
      rcases List.mem_append.1 ((ins_perm n xs).mem_iff.1 hy) with hy | hy
      · exact h.1 y hy
      · rw [List.mem_singleton.1 hy]; omega
theorem with_done (l : List Nt) (hl : l.length ≤ 1048576) (n : Nt) : ∀ d i (out : List Nt), l.length - i = d → i ≤ l.length → out.length ≤ i + 1 → Ev (fun k => spec_l08With.l0 k l out true (i : Int) n.f0 n.f1 n.f2 n.f3 n.f4) (out ++ l.drop i) := by
  intro d
  induction d with
  | zero =>
    intro i out hd hi ho
    rw [List.drop_of_length_le (by omega), List.append_nil]
    exact Ev.step (fun k => spec_l08With.l0.eq_2 ..) (Ev.neg (by omega) (Ev.pos rfl (Ev.now _)))
  | succ d ih =>
    intro i out hd hi ho
    have hi' : i < l.length := by omega
    have hdr : l.drop i = l.getD i z25 :: l.drop (i + 1) := by
      rw [List.drop_eq_getElem_cons hi', List.getD_eq_getElem?_getD, List.getElem?_eq_getElem hi']; rfl
    refine Ev.step (fun k => spec_l08With.l0.eq_2 ..) (Ev.pos (by omega) (Ev.pos rfl (Ev.pos (by omega) (Ev.pos (by omega) ?_))))
    simp only [rd_nat, wrap_succ i (by omega)]
    have := ih (i + 1) (out ++ [l.getD i z25]) (by omega) (by omega) (by simp; omega)
    rw [hdr]
    rw [List.append_assoc] at this
    exact this
theorem with_not (l : List Nt) (hl : l.length ≤ 1048576) (n : Nt) : ∀ d i (out : List Nt), l.length - i = d → i ≤ l.length → out.length ≤ i → Ev (fun k => spec_l08With.l0 k l out false (i : Int) n.f0 n.f1 n.f2 n.f3 n.f4) (out ++ ins n (l.drop i)) := by
  intro d
  induction d with
  | zero =>
    intro i out hd hi ho
    rw [List.drop_of_length_le (by omega)]
    exact Ev.step (fun k => spec_l08With.l0.eq_2 ..) (Ev.neg (by omega) (Ev.neg (by simp) (Ev.pos (by omega) (Ev.now _))))
  | succ d ih =>
    intro i out hd hi ho
    have hi' : i < l.length := by omega
    have hdr : l.drop i = l.getD i z25 :: l.drop (i + 1) := by
      rw [List.drop_eq_getElem_cons hi', List.getD_eq_getElem?_getD, List.getElem?_eq_getElem hi']; rfl
    refine Ev.step (fun k => spec_l08With.l0.eq_2 ..) (Ev.pos (by omega) (Ev.neg (by simp) (Ev.pos (by omega) ?_)))
    simp only [rd_nat, wrap_succ i (by omega)]
    rw [hdr]
    unfold ins
    refine Ev.ite (fun c => ?_) (fun c => ?_)
    · rw [if_pos c]
      refine Ev.pos (by omega) (Ev.bs (Ev.pos (by simp; omega) ?_))
      have := with_done l hl n _ (i + 1) (out ++ [n] ++ [l.getD i z25]) rfl (by omega) (by simp; omega)
      rw [List.append_assoc, List.append_assoc] at this
      rw [List.append_assoc]
      exact this
    · rw [if_neg c]
      refine Ev.pos (by omega) ?_
      have := ih (i + 1) (out ++ [l.getD i z25]) (by omega) (by omega) (by simp; omega)
      rw [List.append_assoc] at this
      exact this
theorem ev_l08With (l : List Nt) (n : Nt) (hl : l.length ≤ 1048576) : Ev (fun k => spec_l08With.f k l n.f0 n.f1 n.f2 n.f3 n.f4) (ins n l) := with_not l hl n _ 0 [] rfl (by omega) (by simp)
end Go.Proofs.Ytppojihmllmgnaa.F
namespace Go.Proofs.Ytppojihmllmgnaa.F
open Go.RowKit Go.Proofs.YtppojihmllmgnaaW.PrintWords Go.Proofs.YtppojihmllmgnaaW.PrintLast Go.Proofs.Ytppojihmllmgnaa.Opn
set_option linter.unusedVariables false
set_option linter.unusedSimpArgs false
theorem notesOk_len {l : List Nt} (h : notesOk l = true) : l.length ≤ 60 := by
  unfold notesOk at h
  simp only [Bool.and_eq_true, decide_eq_true_eq] at h
  exact h.1
theorem notesOk_get {l : List Nt} (h : notesOk l = true) (j : Nat) (hj : j < l.length) : noteOk (l.getD j z25) = true ∧ (0 < j → (l.getD (j - 1) z25).f0 < (l.getD j z25).f0) := by
  unfold notesOk okFrom at h
  simp only [Bool.and_eq_true, decide_eq_true_eq, List.all_eq_true, List.mem_range', Nat.sub_zero] at h
  have := h.2 j ⟨j, by omega, by omega⟩
  simp only [Bool.or_eq_true, beq_iff_eq, decide_eq_true_eq] at this
  exact ⟨this.1, fun h0 => this.2.resolve_left (by omega)⟩
theorem noteOk_f0 {n : Nt} (h : noteOk n = true) : 1 ≤ n.f0 ∧ n.f0 ≤ 10000 := by
  unfold noteOk at h
  simp only [Bool.and_eq_true] at h
  exact inB_true.1 h.1
def tup (n : Nt) : Int × Int × Int × Int × Int := (n.f0, n.f1, n.f2, n.f3, n.f4)
def at8 (l : List Nt) (s : Int) : Nt := (l.find? (fun n => n.f0 == s)).getD ⟨0, 0, 0, 0, 0⟩
theorem ev_l08At (l : List Nt) (s : Int) (hl : l.length ≤ 1048576) : Ev (fun k => spec_l08At.f k l s) (tup (at8 l s)) := by
  unfold spec_l08At.f
  have key := up_loop (fun k i => spec_l08At.l0 k l s i) l.length (fun i => tup (at8 (l.drop i) s)) ?_ ?_ 0 (by omega)
  · simpa only [List.drop_zero, Int.natCast_zero] using key
  · refine Ev.step (fun k => spec_l08At.l0.eq_2 ..) (Ev.neg (by omega) (Ev.some_ ?_))
    simp [at8, tup]
  · intro i hi ih
    refine Ev.step (fun k => spec_l08At.l0.eq_2 ..) (Ev.pos (by omega) (Ev.pos (by omega) ?_))
    simp only [rd_nat, wrap_succ i (by omega)]
    have hd : l.drop i = l.getD i z25 :: l.drop (i + 1) := by
      rw [List.drop_eq_getElem_cons hi, List.getD_eq_getElem?_getD, List.getElem?_eq_getElem hi]; rfl
    refine Ev.ite (fun c => Ev.some_ ?_) (fun c => ?_)
    · rw [hd]
      simp only [at8, List.find?_cons]
      rw [show ((l.getD i z25).f0 == s) = true from beq_iff_eq.2 c]
      rfl
    · rw [hd]
      simp only [at8, List.find?_cons]
      rw [show ((l.getD i z25).f0 == s) = false from beq_eq_false_iff_ne.2 c]
      exact ih
theorem at8_zero {l : List Nt} (h : notesOk l = true) (s : Int) : ((at8 l s).f0 = 0) ↔ l.any (fun y => y.f0 == s) = false := by
  unfold at8
  cases hf : l.find? (fun n => n.f0 == s) with
  | none =>
    rw [List.find?_eq_none] at hf
    simp only [Option.getD_none, true_iff]
    exact List.any_eq_false.2 hf
  | some n =>
    have hm := List.mem_of_find?_eq_some hf
    have hp := List.find?_some hf
    simp only [Option.getD_some]
    obtain ⟨j, hj, rfl⟩ := List.getElem_of_mem hm
    have := (noteOk_f0 ((notesOk_get h j hj).1)).1
    rw [List.getD_eq_getElem?_getD, List.getElem?_eq_getElem hj] at this
    simp only [Option.getD_some] at this
    constructor
    · intro h0; omega
    · intro h0
      rw [List.any_eq_false] at h0
      exact absurd hp (h0 _ hm)
end Go.Proofs.Ytppojihmllmgnaa.F
namespace Go.Proofs.Ytppojihmllmgnaa.F
open Go.RowKit Go.Proofs.YtppojihmllmgnaaW.PrintWords Go.Proofs.YtppojihmllmgnaaW.PrintLast Go.Proofs.Ytppojihmllmgnaa.Opn
set_option linter.unusedVariables false
set_option linter.unusedSimpArgs false
theorem d_note (b : List Int) (hb : b.length ≤ 1048576) (i h : Int) (hi : Cok b i) : ∃ t1 t2 t3 t4 t5 i' h', spec_l08Note.f b i h = some (t1, t2, t3, t4, t5, i', h') ∧ Cok b i' := by
  unfold spec_l08Note.f
  obtain ⟨x1, i1, h1, e1, _, _, _, c1⟩ := d_below b hb i h 24 hi
  obtain ⟨x2, i2, h2, e2, _, c2⟩ := d_pick b hb i1 h1 [1, 1, 1, 2, 2, 3, 4] (by simp) c1
  obtain ⟨x3, i3, h3, e3, _, _, _, c3⟩ := d_below b hb i2 h2 3 c2
  rw [e1]; simp only [Option.bind_some]
  rw [e2]; simp only [Option.bind_some]
  rw [e3]; simp only [Option.bind_some]
  by_cases q4 : x2 = 4
  · rw [if_pos q4]
    obtain ⟨x4, i4, h4, e4, _, _, _, c4⟩ := d_below b hb i3 h3 6 c3
    by_cases q1 : x2 = 1
    · omega
    · rw [if_neg q1, e4]
      exact ⟨_, _, _, _, _, _, _, rfl, c4⟩
  · rw [if_neg q4]
    obtain ⟨x4, i4, h4, e4, _, _, _, c4⟩ := d_below b hb i3 h3 4 c3
    rw [e4]; simp only [Option.bind_some]
    by_cases q1 : x2 = 1
    · obtain ⟨x5, i5, h5, e5, _, _, _, c5⟩ := d_below b hb i4 h4 6 c4
      rw [if_pos q1, e5]
      exact ⟨_, _, _, _, _, _, _, rfl, c5⟩
    · rw [if_neg q1]
      exact ⟨_, _, _, _, _, _, _, rfl, c4⟩
theorem d_anynote (b : List Int) (hb : b.length ≤ 1048576) (i h : Int) (hi : Cok b i) : ∃ t1 t2 t3 t4 t5 i' h', spec_l08AnyNote.f b i h = some (t1, t2, t3, t4, t5, i', h') ∧ Cok b i' := by
  unfold spec_l08AnyNote.f
  obtain ⟨t1, t2, t3, t4, t5, i1, h1, e1, c1⟩ := d_note b hb i h hi
  obtain ⟨x, i2, h2, e2, _, _, _, c2⟩ := d_below b hb i1 h1 20 c1
  rw [e1]; simp only [Option.bind_some]
  rw [e2]; simp only [Option.bind_some]
  have pk : ∀ xs : List Int, 0 < xs.length → ∃ y i' h', spec_l01PickInt.f b i2 h2 xs = some (y, i', h') ∧ Cok b i' := fun xs hx => by
    obtain ⟨y, i', h', e, _, c⟩ := d_pick b hb i2 h2 xs hx c2
    exact ⟨y, i', h', e, c⟩
  split
  · obtain ⟨y, i3, h3, e3, c3⟩ := pk [0, 10000, 10001, (-1)] (by simp)
    rw [e3]; exact ⟨_, _, _, _, _, _, _, rfl, c3⟩
  · split
    · obtain ⟨y, i3, h3, e3, c3⟩ := pk [0, 5, 2, 4] (by simp)
      rw [e3]; exact ⟨_, _, _, _, _, _, _, rfl, c3⟩
    · split
      · obtain ⟨y, i3, h3, e3, c3⟩ := pk [0, 1000, 1001, 3] (by simp)
        rw [e3]; exact ⟨_, _, _, _, _, _, _, rfl, c3⟩
      · split
        · obtain ⟨y, i3, h3, e3, c3⟩ := pk [0, 1000, 1001, 2] (by simp)
          rw [e3]; exact ⟨_, _, _, _, _, _, _, rfl, c3⟩
        · split
          · obtain ⟨y, i3, h3, e3, c3⟩ := pk [0, 20, 21] (by simp)
            rw [e3]; exact ⟨_, _, _, _, _, _, _, rfl, c3⟩
          · exact ⟨_, _, _, _, _, _, _, rfl, c2⟩
theorem ins_length (n : Nt) (l : List Nt) : (ins n l).length = l.length + 1 := by
  have := (ins_perm n l).length_eq
  simpa using this
theorem ev_notes (b : List Int) (hb : b.length ≤ 1048576) (i h : Int) (hi : Cok b i) : ∃ l i' h', Ev (fun k => spec_l08Notes.f k b i h) (l, i', h') ∧ l.length ≤ 14 ∧ Cok b i' := by
  unfold spec_l08Notes.f
  obtain ⟨x, i1, h1, e1, p1, _, p2, c1⟩ := d_below b hb i h 14 hi
  rw [e1]
  have loop : ∀ n : Nat, ∀ (l : List Nt) (i h : Int), l.length + n ≤ 14 → Cok b i → ∃ l' i' h', Ev (fun k => spec_l08Notes.l0 k l (n : Int) b i h) (l', i', h') ∧ l'.length ≤ 14 ∧ Cok b i' := by
    intro n
    induction n with
    | zero =>
      intro l i h hl hc
      exact ⟨l, i, h, Ev.step (fun k => spec_l08Notes.l0.eq_2 ..) (Ev.neg (by omega) (Ev.now _)), by omega, hc⟩
    | succ n ih =>
      intro l i h hl hc
      obtain ⟨t1, t2, t3, t4, t5, i2, h2, e2, c2⟩ := d_note b hb i h hc
      have hw : wrap64 (((n + 1 : Nat) : Int) - 1) = (n : Int) := by rw [wrap_id (by omega) (by omega)]; omega
      by_cases q : (at8 l t1).f0 = 0
      · obtain ⟨l', i', h', ev, g1, g2⟩ := ih (ins ⟨t1, t2, t3, t4, t5⟩ l) i2 h2 (by rw [ins_length]; omega) c2
        refine ⟨l', i', h', Ev.step (fun k => spec_l08Notes.l0.eq_2 ..) (Ev.pos (by omega) (Ev.bd' e2 (Ev.bd (ev_l08At l t1 (by omega)) (Ev.pos q (Ev.bd (ev_l08With l ⟨t1, t2, t3, t4, t5⟩ (by omega)) ?_))))), g1, g2⟩
        simp only [hw]
        exact ev
      · obtain ⟨l', i', h', ev, g1, g2⟩ := ih l i2 h2 (by omega) c2
        refine ⟨l', i', h', Ev.step (fun k => spec_l08Notes.l0.eq_2 ..) (Ev.pos (by omega) (Ev.bd' e2 (Ev.bd (ev_l08At l t1 (by omega)) (Ev.neg q ?_)))), g1, g2⟩
        simp only [hw]
        exact ev
  obtain ⟨n, rfl⟩ := Int.eq_ofNat_of_zero_le p1
  have p3 := p2 (by omega)
  obtain ⟨l', i', h', ev, g1, g2⟩ := loop n [] i1 h1 (by simp; omega) c1
  exact ⟨l', i', h', Ev.bs ev, g1, g2⟩
theorem ev_any (b : List Int) (hb : b.length ≤ 1048576) (i h : Int) (hi : Cok b i) : ∃ l i' h', Ev (fun k => spec_l08Any.f k b i h) (l, i', h') ∧ l.length ≤ 100 ∧ Cok b i' := by
  unfold spec_l08Any.f
  obtain ⟨l, i1, h1, ev, hl, c1⟩ := ev_notes b hb i h hi
  obtain ⟨x, i2, h2, e2, _, _, _, c2⟩ := d_below b hb i1 h1 18 c1
  have fill : ∀ d (l : List Nt) (i h : Int), 100 - l.length = d → l.length ≤ 61 → Cok b i → ∃ l' i' h', Ev (fun k => spec_l08Any.l0 k l b i h) (l', i', h') ∧ l'.length ≤ 100 ∧ Cok b i' := by
    intro d
    induction d with
    | zero => intro l i h hd hl hc; omega
    | succ d ih =>
      intro l i h hd hl hc
      obtain ⟨y, i3, h3, e3, p3, _, p4, c3⟩ := d_below b hb i h 2 hc
      have p5 := p4 (by omega)
      have hw : wrap64 (60 + y) = 60 + y := wrap_id (by omega) (by omega)
      by_cases q : (l.length : Int) < 60 + y
      · obtain ⟨l', i', h', ev, g1, g2⟩ := ih (l ++ [⟨wrap64 (30 + (l.length : Int)), 2, 1, 0, 1⟩]) i3 h3 (by simp; omega) (by simp; omega) c3
        refine ⟨l', i', h', Ev.step (fun k => spec_l08Any.l0.eq_2 ..) (Ev.bd' e3 (Ev.pos (by rw [hw]; exact q) (Ev.pos (by omega) ev))), g1, g2⟩
      · exact ⟨l, i3, h3, Ev.step (fun k => spec_l08Any.l0.eq_2 ..) (Ev.bd' e3 (Ev.neg (by rw [hw]; exact q) (Ev.now _))), by omega, c3⟩
  by_cases q0 : x = 0
  · by_cases ql : (l.length : Int) > 0
    · obtain ⟨y, i3, h3, e3, p3, _, p4, c3⟩ := d_below b hb i2 h2 (l.length : Int) c2
      obtain ⟨t1, t2, t3, t4, t5, i4, h4, e4, c4⟩ := d_anynote b hb i3 h3 c3
      exact ⟨_, i4, h4, Ev.bd ev (Ev.bd' e2 (Ev.pos q0 (Ev.pos ql (Ev.bd' e3 (Ev.bd' e4 (Ev.pos p3 (Ev.pos (p4 (by omega)) (Ev.now _)))))))), by rw [List.length_set]; show l.length ≤ 100; omega, c4⟩
    · exact ⟨l, i2, h2, Ev.bd ev (Ev.bd' e2 (Ev.pos q0 (Ev.neg ql (Ev.now _)))), by omega, c2⟩
  · by_cases q1 : x = 1
    · by_cases ql : (l.length : Int) > 1
      · exact ⟨_, i2, h2, Ev.bd ev (Ev.bd' e2 (Ev.neg q0 (Ev.pos q1 (Ev.pos ql (Ev.pos ql (Ev.pos (by show (0 : Int) < (l.length : Int); omega) (Ev.now _))))))), by rw [List.length_set]; show l.length ≤ 100; omega, c2⟩
      · exact ⟨l, i2, h2, Ev.bd ev (Ev.bd' e2 (Ev.neg q0 (Ev.pos q1 (Ev.neg ql (Ev.now _))))), by omega, c2⟩
    · by_cases q2 : x = 2
      · obtain ⟨l', i', h', ev2, g1, g2⟩ := fill _ l i2 h2 rfl (by omega) c2
        exact ⟨l', i', h', Ev.bd ev (Ev.bd' e2 (Ev.neg q0 (Ev.neg q1 (Ev.pos q2 ev2)))), g1, g2⟩
      · exact ⟨l, i2, h2, Ev.bd ev (Ev.bd' e2 (Ev.neg q0 (Ev.neg q1 (Ev.neg q2 (Ev.now _))))), by omega, c2⟩
end Go.Proofs.Ytppojihmllmgnaa.F
namespace Go.Proofs.Ytppojihmllmgnaa.F
open Go.RowKit Go.Proofs.YtppojihmllmgnaaW.PrintWords Go.Proofs.YtppojihmllmgnaaW.PrintLast Go.Proofs.Ytppojihmllmgnaa.Opn
set_option linter.unusedVariables false
set_option linter.unusedSimpArgs false
theorem lastP_take {α : Type} (p : α → Bool) (l : List α) (d : α) (m : Nat) (h : m < l.length) : lastP p (l.take (m + 1)) = if p (l.getD m d) = true then some (l.getD m d) else lastP p (l.take m) := by
  have : l.getD m d = l[m] := by rw [List.getD_eq_getElem?_getD, List.getElem?_eq_getElem h]; rfl
  unfold lastP
  rw [List.take_succ_eq_append_getElem h, List.reverse_append, this]
  simp only [List.reverse_cons, List.reverse_nil, List.nil_append, List.cons_append, List.find?_cons]
  cases p l[m] <;> simp
def lastN (p : Nt → Bool) (l : List Nt) : Option Nt := if notesOk l = true then lastP p l else none
def aboardP (a1 a2 : Int) (x : Nt) : Bool := ((x.f1 == 2 || x.f1 == 3) && x.f2 == a1) && x.f4 == a2
def pulledP (a1 a2 : Int) (x : Nt) : Bool := ((x.f1 == 1 || x.f1 == 4) && x.f3 == a1) && x.f4 == a2
def ownerP (a1 : Int) (x : Nt) : Bool := x.f1 == 1 && x.f3 == a1
def aboard (l : List Nt) (a1 a2 : Int) : Bool := match lastN (aboardP a1 a2) l with | some x => x.f1 == 2 | none => false
def pulled (l : List Nt) (a1 a2 : Int) : Bool := match lastN (pulledP a1 a2) l with | some x => x.f1 == 4 | none => false
def ownerOf (l : List Nt) (a1 : Int) : Int × Int × Bool := match lastN (ownerP a1) l with | some x => (x.f2, x.f4, true) | none => (0, 0, false)
def mayFly (l : List Nt) (a1 a2 : Int) : Bool := (ownerOf l a1).2.2 && ((ownerOf l a1).2.1 == a2 && (aboard l (ownerOf l a1).1 a2 && !pulled l a1 a2))

theorem spec_Aboard_l0 (l : List Nt) (a1 a2 : Int) (hm : l.length ≤ maxLen) : ∀ m, m ≤ l.length → Ev (fun k => spec_Aboard.l0 k l a1 a2 ((m : Int) - 1)) (match (if notesOk l = true then lastP (aboardP a1 a2) (l.take m) else none) with | some x => x.f1 == 2 | none => false) := by
  unfold maxLen at hm
  intro m
  induction m with
  | zero =>
    intro _
    refine Ev.step (fun k => spec_Aboard.l0.eq_2 ..) (Ev.neg (by omega) (Ev.step (fun k => spec_Aboard.j1.eq_2 ..) (Ev.neg (by simp) (Ev.some_ ?_))))
    cases notesOk l <;> simp [lastP]
  | succ m ih =>
    intro hl
    have ih := ih (by omega)
    have hi : (((m + 1 : Nat) : Int) - 1) = (m : Int) := by omega
    rw [hi]
    refine Ev.step (fun k => spec_Aboard.l0.eq_2 ..) (Ev.pos (by omega) (Ev.bd (ev_spec_NotesOk l) (Ev.step (fun k => spec_Aboard.j1.eq_2 ..) ?_)))
    cases hn : notesOk l with
    | false => exact Ev.neg (by simp) (Ev.some_ (by simp))
    | true =>
      refine Ev.pos rfl (Ev.pos (by omega) (Ev.pos (by omega) ?_))
      rw [hn] at ih
      simp only [if_true, rd_nat] at ih ⊢
      rw [lastP_take _ l z25 m (by omega)]
      have hw : wrap64 ((m : Int) - 1) = (m : Int) - 1 := wrap_id (by omega) (by omega)
      rw [hw]
      generalize l.getD m z25 = x
      refine Ev.ite (fun h2 => ?_) (fun h2 => Ev.ite (fun h3 => ?_) (fun h3 => ?_))
      · refine Ev.ite (fun hw => Ev.ite (fun hf => Ev.some_ ?_) (fun hf => ?_)) (fun hw => ?_)
        · simp [aboardP, h2, hw, hf]
        · simpa [aboardP, h2, hw, hf] using ih
        · simpa [aboardP, h2, hw] using ih
      · refine Ev.ite (fun hw => Ev.ite (fun hf => Ev.some_ ?_) (fun hf => ?_)) (fun hw => ?_)
        · simp [aboardP, h3, hw, hf]
        · simpa [aboardP, h3, hw, hf] using ih
        · simpa [aboardP, h3, hw] using ih
      · simpa [aboardP, h2, h3] using ih
theorem ev_spec_Aboard (l : List Nt) (a1 a2 : Int) (hm : l.length ≤ maxLen) : Ev (fun k => spec_Aboard.f k l a1 a2) (aboard l a1 a2) := by
  have h := spec_Aboard_l0 l a1 a2 hm l.length (Nat.le_refl _)
  unfold maxLen at hm
  unfold spec_Aboard.f aboard lastN
  rw [wrap_id (by omega) (by omega)]
  simpa using h
theorem spec_Pulled_l0 (l : List Nt) (a1 a2 : Int) (hm : l.length ≤ maxLen) : ∀ m, m ≤ l.length → Ev (fun k => spec_Pulled.l0 k l a1 a2 ((m : Int) - 1)) (match (if notesOk l = true then lastP (pulledP a1 a2) (l.take m) else none) with | some x => x.f1 == 4 | none => false) := by
  unfold maxLen at hm
  intro m
  induction m with
  | zero =>
    intro _
    refine Ev.step (fun k => spec_Pulled.l0.eq_2 ..) (Ev.neg (by omega) (Ev.step (fun k => spec_Pulled.j1.eq_2 ..) (Ev.neg (by simp) (Ev.some_ ?_))))
    cases notesOk l <;> simp [lastP]
  | succ m ih =>
    intro hl
    have ih := ih (by omega)
    have hi : (((m + 1 : Nat) : Int) - 1) = (m : Int) := by omega
    rw [hi]
    refine Ev.step (fun k => spec_Pulled.l0.eq_2 ..) (Ev.pos (by omega) (Ev.bd (ev_spec_NotesOk l) (Ev.step (fun k => spec_Pulled.j1.eq_2 ..) ?_)))
    cases hn : notesOk l with
    | false => exact Ev.neg (by simp) (Ev.some_ (by simp))
    | true =>
      refine Ev.pos rfl (Ev.pos (by omega) (Ev.pos (by omega) ?_))
      rw [hn] at ih
      simp only [if_true, rd_nat] at ih ⊢
      rw [lastP_take _ l z25 m (by omega)]
      have hw : wrap64 ((m : Int) - 1) = (m : Int) - 1 := wrap_id (by omega) (by omega)
      rw [hw]
      generalize l.getD m z25 = x
      refine Ev.ite (fun h2 => ?_) (fun h2 => Ev.ite (fun h3 => ?_) (fun h3 => ?_))
      · refine Ev.ite (fun hw => Ev.ite (fun hf => Ev.some_ ?_) (fun hf => ?_)) (fun hw => ?_)
        · simp [pulledP, h2, hw, hf]
        · simpa [pulledP, h2, hw, hf] using ih
        · simpa [pulledP, h2, hw] using ih
      · refine Ev.ite (fun hw => Ev.ite (fun hf => Ev.some_ ?_) (fun hf => ?_)) (fun hw => ?_)
        · simp [pulledP, h3, hw, hf]
        · simpa [pulledP, h3, hw, hf] using ih
        · simpa [pulledP, h3, hw] using ih
      · simpa [pulledP, h2, h3] using ih
theorem ev_spec_Pulled (l : List Nt) (a1 a2 : Int) (hm : l.length ≤ maxLen) : Ev (fun k => spec_Pulled.f k l a1 a2) (pulled l a1 a2) := by
  have h := spec_Pulled_l0 l a1 a2 hm l.length (Nat.le_refl _)
  unfold maxLen at hm
  unfold spec_Pulled.f pulled lastN
  rw [wrap_id (by omega) (by omega)]
  simpa using h
theorem spec_OwnerOf_l0 (l : List Nt) (a1 : Int) (hm : l.length ≤ maxLen) : ∀ m, m ≤ l.length → Ev (fun k => spec_OwnerOf.l0 k l a1 ((m : Int) - 1)) (match (if notesOk l = true then lastP (ownerP a1) (l.take m) else none) with | some x => (x.f2, x.f4, true) | none => (0, 0, false)) := by
  unfold maxLen at hm
  intro m
  induction m with
  | zero =>
    intro _
    refine Ev.step (fun k => spec_OwnerOf.l0.eq_2 ..) (Ev.neg (by omega) (Ev.step (fun k => spec_OwnerOf.j1.eq_2 ..) (Ev.neg (by simp) (Ev.some_ ?_))))
    cases notesOk l <;> simp [lastP]
  | succ m ih =>
    intro hl
    have ih := ih (by omega)
    have hi : (((m + 1 : Nat) : Int) - 1) = (m : Int) := by omega
    rw [hi]
    refine Ev.step (fun k => spec_OwnerOf.l0.eq_2 ..) (Ev.pos (by omega) (Ev.bd (ev_spec_NotesOk l) (Ev.step (fun k => spec_OwnerOf.j1.eq_2 ..) ?_)))
    cases hn : notesOk l with
    | false => exact Ev.neg (by simp) (Ev.some_ (by simp))
    | true =>
      refine Ev.pos rfl (Ev.pos (by omega) (Ev.pos (by omega) ?_))
      rw [hn] at ih
      simp only [if_true, rd_nat] at ih ⊢
      rw [lastP_take _ l z25 m (by omega)]
      have hw : wrap64 ((m : Int) - 1) = (m : Int) - 1 := wrap_id (by omega) (by omega)
      rw [hw]
      generalize l.getD m z25 = x
      refine Ev.ite (fun h2 => Ev.ite (fun h3 => Ev.some_ ?_) (fun h3 => ?_)) (fun h2 => ?_)
      · simp [ownerP, h2, h3]
      · simpa [ownerP, h2, h3] using ih
      · simpa [ownerP, h2] using ih
theorem ev_spec_OwnerOf (l : List Nt) (a1 : Int) (hm : l.length ≤ maxLen) : Ev (fun k => spec_OwnerOf.f k l a1) (ownerOf l a1) := by
  have h := spec_OwnerOf_l0 l a1 hm l.length (Nat.le_refl _)
  unfold maxLen at hm
  unfold spec_OwnerOf.f ownerOf lastN
  rw [wrap_id (by omega) (by omega)]
  simpa using h
theorem ev_impl_Aboard (l : List Nt) (a1 a2 : Int) (hm : l.length ≤ maxLen) : Ev (fun k => impl_Aboard.f k l a1 a2) (aboard l a1 a2) := by
  unfold impl_Aboard.f impl_Aboard_1__impl_lastNote.f aboard lastN
  refine Ev.bd (Ev.bd (ev_impl_NotesOk l hm) (Ev.now _)) (Ev.some_ ?_)
  show (((if notesOk l = true then lastP (aboardP a1 a2) l else none).getD _).f1 == 2) = _
  cases (if notesOk l = true then lastP (aboardP a1 a2) l else none) <;> rfl
theorem ev_impl_Pulled (l : List Nt) (a1 a2 : Int) (hm : l.length ≤ maxLen) : Ev (fun k => impl_Pulled.f k l a1 a2) (pulled l a1 a2) := by
  unfold impl_Pulled.f impl_Pulled_1__impl_lastNote.f pulled lastN
  refine Ev.bd (Ev.bd (ev_impl_NotesOk l hm) (Ev.now _)) (Ev.some_ ?_)
  show (((if notesOk l = true then lastP (pulledP a1 a2) l else none).getD _).f1 == 4) = _
  cases (if notesOk l = true then lastP (pulledP a1 a2) l else none) <;> rfl
theorem ev_impl_OwnerOf (l : List Nt) (a1 : Int) (hm : l.length ≤ maxLen) : Ev (fun k => impl_OwnerOf.f k l a1) (ownerOf l a1) := by
  unfold impl_OwnerOf.f impl_OwnerOf_1__impl_lastNote.f ownerOf lastN
  refine Ev.bd (Ev.bd (ev_impl_NotesOk l hm) (Ev.now _)) (Ev.some_ ?_)
  show (((if notesOk l = true then lastP (ownerP a1) l else none).getD _).f2, ((if notesOk l = true then lastP (ownerP a1) l else none).getD _).f4, (if notesOk l = true then lastP (ownerP a1) l else none).isSome) = _
  cases (if notesOk l = true then lastP (ownerP a1) l else none) <;> rfl
theorem ev_spec_MayFly (l : List Nt) (a1 a2 : Int) (hm : l.length ≤ maxLen) : Ev (fun k => spec_MayFly.f k l a1 a2) (mayFly l a1 a2) := by
  unfold spec_MayFly.f mayFly
  refine Ev.bd (ev_spec_OwnerOf l a1 hm) ?_
  generalize ownerOf l a1 = o
  refine Ev.ite (fun h1 => Ev.ite (fun h2 => Ev.bd (ev_spec_Aboard l _ _ hm) (Ev.ite (fun h3 => Ev.bd (ev_spec_Pulled l _ _ hm) (Ev.some_ ?_)) (fun h3 => Ev.some_ ?_))) (fun h2 => Ev.some_ ?_)) (fun h1 => Ev.some_ ?_)
  · simp [h1, h2, h3]
  · simp [h1, h2, h3]
  · simp [h1, h2]
  · simp [h1]
theorem ev_impl_MayFly (l : List Nt) (a1 a2 : Int) (hm : l.length ≤ maxLen) : Ev (fun k => impl_MayFly.f k l a1 a2) (mayFly l a1 a2) := by
  unfold impl_MayFly.f mayFly
  refine Ev.bd (ev_impl_OwnerOf l a1 hm) ?_
  generalize ownerOf l a1 = o
  refine Ev.ite (fun h1 => Ev.ite (fun h2 => Ev.bd (ev_impl_Aboard l _ _ hm) (Ev.ite (fun h3 => Ev.bd (ev_impl_Pulled l _ _ hm) (Ev.some_ ?_)) (fun h3 => Ev.some_ ?_))) (fun h2 => Ev.some_ ?_)) (fun h1 => Ev.some_ ?_)
  · simp [h1, h2, h3]
  · simp [h1, h2, h3]
  · simp [h1, h2]
  · simp [h1]
end Go.Proofs.Ytppojihmllmgnaa.F
namespace Go.Proofs.Ytppojihmllmgnaa.Opn
open Go.RowKit Go.Proofs.YtppojihmllmgnaaW.PrintWords
set_option linter.unusedVariables false
set_option linter.unusedSimpArgs false
theorem asc_ext : ∀ (l1 l2 : List Int), l1.Pairwise (· < ·) → l2.Pairwise (· < ·) → (∀ x, x ∈ l1 ↔ x ∈ l2) → l1 = l2
  | [], [], _, _, _ => rfl
  | [], b :: l2, _, _, h => absurd ((h b).2 List.mem_cons_self) (by simp)
  | a :: l1, [], _, _, h => absurd ((h a).1 List.mem_cons_self) (by simp)
  | a :: l1, b :: l2, h1, h2, h => by
    rw [List.pairwise_cons] at h1 h2
    have hab : a = b := by
      rcases List.mem_cons.1 ((h a).1 List.mem_cons_self) with e | e
      · exact e
      · rcases List.mem_cons.1 ((h b).2 List.mem_cons_self) with e' | e'
        · exact e'.symm
        · have := h2.1 a e
          have := h1.1 b e'
          omega
    subst hab
    congr 1
    refine asc_ext l1 l2 h1.2 h2.2 (fun x => ⟨fun hx => ?_, fun hx => ?_⟩)
    · rcases List.mem_cons.1 ((h x).1 (List.mem_cons_of_mem _ hx)) with e | e
      · have := h1.1 x hx
        omega
      · exact e
    · rcases List.mem_cons.1 ((h x).2 (List.mem_cons_of_mem _ hx)) with e | e
      · have := h2.1 x hx
        omega
      · exact e
theorem compact_asc (l : List Int) : (Go.Lib.compact (l.mergeSort fun x y => decide (x ≤ y))).Pairwise (· < ·) ∧ ∀ x, x ∈ Go.Lib.compact (l.mergeSort fun x y => decide (x ≤ y)) ↔ x ∈ l := by
  have hperm := List.mergeSort_perm l (fun x y => decide (x ≤ y))
  have hsort : (l.mergeSort fun x y => decide (x ≤ y)).Pairwise (fun a b => decide (a ≤ b) = true) := List.pairwise_mergeSort (fun a b c h1 h2 => by simp at *; omega) (fun a b => by simp; omega) l
  have hmem : ∀ x, x ∈ (l.mergeSort fun x y => decide (x ≤ y)) ↔ x ∈ l := fun x => hperm.mem_iff
  generalize (l.mergeSort fun x y => decide (x ≤ y)) = s at hsort hmem
  rw [List.pairwise_iff_getElem] at hsort
  have hget : ∀ j (h : j < s.length), s.toArray[j]! = s[j] := fun j h => by simp [getElem!_pos, h]
  unfold Go.Lib.compact Go.Lib.compactUpTo
  constructor
  · rw [List.pairwise_map, List.pairwise_filter, List.pairwise_iff_getElem]
    intro i j hi hj hij _ hk
    simp only [List.getElem_range] at hk ⊢
    rw [List.length_range] at hi hj
    simp only [Go.Lib.keeps, decide_eq_true_eq] at hk
    rcases hk with hk | hk
    · omega
    · rw [hget i hi, hget j hj]
      rw [hget j hj, hget (j - 1) (by omega)] at hk
      have h1 : s[i] ≤ s[j - 1] := by
        by_cases e : i = j - 1
        · subst e; exact Int.le_refl _
        · simpa using hsort i (j - 1) hi (by omega) (by omega)
      have h2 : s[j - 1] ≤ s[j] := by simpa using hsort (j - 1) j (by omega) hj (by omega)
      omega
  · intro x
    rw [← hmem]
    have hfirst : ∀ j (h : j < s.length), ∃ i, ∃ (h' : i < s.length), Go.Lib.keeps s.toArray i = true ∧ s[i] = s[j] := by
      intro j
      induction j with
      | zero => intro h; exact ⟨0, h, by simp [Go.Lib.keeps], rfl⟩
      | succ j ih =>
        intro h
        by_cases hk : Go.Lib.keeps s.toArray (j + 1) = true
        · exact ⟨j + 1, h, hk, rfl⟩
        · obtain ⟨i, h', hi, he⟩ := ih (by omega)
          refine ⟨i, h', hi, ?_⟩
          simp only [Go.Lib.keeps, decide_eq_true_eq] at hk
          rw [hget (j + 1) h, hget (j + 1 - 1) (by omega)] at hk
          have : s[j + 1] = s[j] := by
            by_cases e : s[j + 1] = s[j]
            · exact e
            · exact absurd (Or.inr e) hk
          rw [he, this]
    simp only [List.mem_map, List.mem_filter, List.mem_range]
    constructor
    · rintro ⟨j, ⟨hj, _⟩, rfl⟩
      rw [hget j hj]
      exact List.getElem_mem hj
    · intro hx
      obtain ⟨j, hj, rfl⟩ := List.getElem_of_mem hx
      obtain ⟨i, h', hi, he⟩ := hfirst j hj
      exact ⟨i, ⟨h', hi⟩, by rw [hget i h', he]⟩
theorem range_asc (n : Nat) (p : Nat → Bool) : (((List.range n).filter p).map (fun w : Nat => (w : Int))).Pairwise (· < ·) := by
  rw [List.pairwise_map, List.pairwise_filter]
  exact (List.pairwise_lt_range).imp (fun h _ _ => by omega)
end Go.Proofs.Ytppojihmllmgnaa.Opn
namespace Go.Proofs.Ytppojihmllmgnaa.F
open Go.RowKit Go.Proofs.YtppojihmllmgnaaW.PrintWords Go.Proofs.YtppojihmllmgnaaW.PrintLast Go.Proofs.Ytppojihmllmgnaa.Opn
set_option linter.unusedVariables false
set_option linter.unusedSimpArgs false
/-- A note that tells that somebody's bag flies along, not pulled. -/
def ownsN (l : List Nt) (fl w : Int) (n : Nt) : Bool := (n.f1 == 1 && n.f2 == w) && ((ownerOf l n.f3).2.2 && ((ownerOf l n.f3).1 == w && ((ownerOf l n.f3).2.1 == fl && !pulled l n.f3 fl)))
def heldW (l : List Nt) (fl w : Int) : Bool := l.any (ownsN l fl w) && !aboard l w fl
def heldS (l : List Nt) (fl : Int) (n : Nat) : List Int := ((List.range n).filter (fun w : Nat => decide (1 ≤ w) && heldW l fl (w : Int))).map (fun w : Nat => (w : Int))
def held (l : List Nt) (fl : Int) : List Int := if notesOk l = true then heldS l fl 1001 else []
theorem heldS_succ (l : List Nt) (fl : Int) (n : Nat) (hn : 1 ≤ n) : heldS l fl (n + 1) = if heldW l fl (n : Int) = true then heldS l fl n ++ [(n : Int)] else heldS l fl n := by
  unfold heldS
  rw [List.range_succ, List.filter_append, List.map_append]
  cases h : heldW l fl (n : Int) <;> simp [h, hn]
theorem heldS_len (l : List Nt) (fl : Int) (n : Nat) : (heldS l fl n).length ≤ n := by
  unfold heldS
  rw [List.length_map]
  exact Nat.le_trans (List.length_filter_le _ _) (by simp)
theorem any_snoc (l : List Nt) (p : Nt → Bool) (i : Nat) (hi : i < l.length) : (l.take (i + 1)).any p = ((l.take i).any p || p (l.getD i z25)) := by
  rw [List.take_succ_eq_append_getElem hi, List.any_append, List.getD_eq_getElem?_getD, List.getElem?_eq_getElem hi]
  simp
theorem ev_spec_HeldUp (l : List Nt) (fl : Int) (hl : l.length ≤ 1048576) : Ev (fun k => spec_HeldUp.f k l fl) (held l fl) := by
  have hm : l.length ≤ maxLen := by unfold maxLen; omega
  unfold spec_HeldUp.f held
  refine Ev.bs (Ev.bd (ev_spec_NotesOk l) (Ev.ite (fun h => ?_) (fun h => ?_)))
  · rw [if_pos h]
    have key := up_state (fun k s i => spec_HeldUp.l0 k l fl s (i + 1)) 1000 (fun i => heldS l fl (i + 1)) (heldS l fl 1001) ?_ ?_ 0 (by omega)
    · have h1 : heldS l fl (0 + 1) = [] := by simp [heldS, List.range_succ]
      rw [h1] at key
      exact key
    · exact Ev.step (fun k => spec_HeldUp.l0.eq_2 ..) (Ev.neg (by omega) (Ev.now _))
    · intro i hi ih
      refine Ev.step (fun k => spec_HeldUp.l0.eq_2 ..) (Ev.pos (by omega) ?_)
      have hw : (i : Int) + 1 = ((i + 1 : Nat) : Int) := by omega
      simp only [hw]
      simp only [hw, heldS_succ l fl (i + 1) (by omega)] at ih
      have hlen := heldS_len l fl (i + 1)
      generalize heldS l fl (i + 1) = acc at ih hlen
      have hnext : wrap64 (((i + 1 : Nat) : Int) + 1) = ((i + 1 : Nat) : Int) + 1 := by rw [wrap_succ (i + 1) (by omega)]; omega
      generalize hw2 : ((i + 1 : Nat) : Int) = w at ih hnext
      have hlow : (0 : Int) < w := by omega
      refine up_state (fun k x j => spec_HeldUp.l1 k l fl acc w x j) l.length (fun j => (l.take j).any (ownsN l fl w)) _ ?_ ?_ 0 (by omega)
      · refine Ev.step (fun k => spec_HeldUp.l1.eq_2 ..) (Ev.neg (by omega) ?_)
        simp only [List.take_length, hnext]
        refine Ev.ite (fun c => Ev.bd (ev_spec_Aboard l w fl hm) (Ev.ite (fun c2 => ?_) (fun c2 => Ev.pos (by omega) ?_))) (fun c => ?_)
        · rw [if_neg (by simp [heldW, c, c2])] at ih
          exact ih
        · rw [if_pos (by simp [heldW, c, c2])] at ih
          exact ih
        · rw [if_neg (by simp [heldW, c])] at ih
          exact ih
      · intro j hj ihj
        have any1 : (l.take (j + 1)).any (ownsN l fl w) = ((l.take j).any (ownsN l fl w) || ownsN l fl w (l.getD j z25)) := any_snoc l _ j hj
        rw [any1] at ihj
        refine Ev.step (fun k => spec_HeldUp.l1.eq_2 ..) (Ev.pos (by omega) (Ev.pos (by omega) ?_))
        simp only [rd_nat]
        generalize (l.take j).any (ownsN l fl w) = x7 at ihj
        generalize hn : l.getD j z25 = n at ihj
        refine Ev.ite (fun c1 => Ev.step (fun k => spec_HeldUp.j2.eq_2 ..) (Ev.ite (fun c2 => ?_) (fun c2 => ?_))) (fun c1 => Ev.step (fun k => spec_HeldUp.j2.eq_2 ..) (Ev.pos rfl ?_))
        · have : ownsN l fl w n = false := by
            have : (n.f2 == w) = false := by simpa using c2
            simp [ownsN, this]
          rw [this, Bool.or_false] at ihj
          simp only [wrap_succ j (by omega)]
          exact ihj
        · have hf2 : (n.f2 == w) = true := by simpa using c2
          refine Ev.pos (by omega) (Ev.pos (by omega) ?_)
          simp only [rd_nat, hn, wrap_succ j (by omega)]
          refine Ev.bd (ev_spec_OwnerOf l _ hm) ?_
          have hown : ownsN l fl w n = ((ownerOf l n.f3).2.2 && ((ownerOf l n.f3).1 == w && ((ownerOf l n.f3).2.1 == fl && !pulled l n.f3 fl))) := by
            unfold ownsN
            rw [hf2, show (n.f1 == 1) = true from beq_iff_eq.2 c1]
            simp
          rw [hown] at ihj
          generalize ownerOf l n.f3 = o at ihj
          refine Ev.ite (fun c3 => ?_) (fun c3 => Ev.ite (fun c4 => Ev.ite (fun c5 => Ev.ite (fun c6 => Ev.bd (ev_spec_Pulled l _ _ hm) ?_) (fun c6 => ?_)) (fun c5 => ?_)) (fun c4 => ?_))
          · rw [c3, Bool.true_or] at ihj
            exact ihj
          · simp only [c3, c4, c5, c6, beq_self_eq_true, Bool.true_and, Bool.false_or, Bool.eq_false_iff.2 c3] at ihj
            exact ihj
          · have : (o.2.1 == fl) = false := beq_eq_false_iff_ne.2 c6
            simp only [this, Bool.false_and, Bool.and_false, Bool.or_false, Bool.eq_false_iff.2 c3] at ihj
            exact ihj
          · have : (o.1 == w) = false := beq_eq_false_iff_ne.2 c5
            simp only [this, Bool.false_and, Bool.and_false, Bool.or_false, Bool.eq_false_iff.2 c3] at ihj
            exact ihj
          · simp only [Bool.eq_false_iff.2 c4, Bool.false_and, Bool.or_false, Bool.eq_false_iff.2 c3] at ihj
            exact ihj
        · have : ownsN l fl w n = false := by
            have : (n.f1 == 1) = false := beq_eq_false_iff_ne.2 c1
            simp [ownsN, this]
          rw [this, Bool.or_false] at ihj
          simp only [wrap_succ j (by omega)]
          exact ihj
  · rw [if_neg h]
    exact Ev.now _
def upQ (l : List Nt) (fl : Int) (n : Nt) : Bool := (n.f1 == 1 && (ownerOf l n.f3).2.1 == fl) && (!pulled l n.f3 fl && !aboard l (ownerOf l n.f3).1 fl)
def ups (l : List Nt) (fl : Int) (q : List Nt) : List Int := (q.filter (upQ l fl)).map (fun n => (ownerOf l n.f3).1)
theorem lastP_some {p : Nt → Bool} {l : List Nt} {m : Nt} (h : lastP p l = some m) : m ∈ l ∧ p m = true := by
  unfold lastP at h
  exact ⟨List.mem_reverse.1 (List.mem_of_find?_eq_some h), List.find?_some h⟩
theorem lastP_has {p : Nt → Bool} {l : List Nt} {n : Nt} (hn : n ∈ l) (hp : p n = true) : ∃ m, lastP p l = some m := by
  cases h : lastP p l with
  | some m => exact ⟨m, rfl⟩
  | none =>
    unfold lastP at h
    rw [List.find?_eq_none] at h
    exact absurd hp (h n (List.mem_reverse.2 hn))
/-- A bag that stands in the list has an owner, told by a note of its own. -/
theorem owner_note {l : List Nt} (h : notesOk l = true) {n : Nt} (hn : n ∈ l) (h1 : n.f1 = 1) : ∃ m, m ∈ l ∧ m.f1 = 1 ∧ m.f3 = n.f3 ∧ ownerOf l n.f3 = (m.f2, m.f4, true) := by
  obtain ⟨m, hm⟩ := lastP_has (p := ownerP n.f3) hn (by simp [ownerP, h1])
  obtain ⟨h2, h3⟩ := lastP_some hm
  simp only [ownerP, Bool.and_eq_true, beq_iff_eq] at h3
  refine ⟨m, h2, h3.1, h3.2, ?_⟩
  unfold ownerOf lastN
  rw [if_pos h, hm]
theorem who_range {l : List Nt} (h : notesOk l = true) {m : Nt} (hm : m ∈ l) (h1 : m.f1 = 1) : 1 ≤ m.f2 ∧ m.f2 ≤ 1000 := by
  obtain ⟨j, hj, rfl⟩ := List.getElem_of_mem hm
  have := (notesOk_get h j hj).1
  rw [List.getD_eq_getElem?_getD, List.getElem?_eq_getElem hj] at this
  simp only [Option.getD_some, noteOk, h1, if_true, Bool.and_eq_true] at this
  exact inB_true.1 this.2.2.1
theorem held_eq (l : List Nt) (fl : Int) (h : notesOk l = true) : Go.Lib.compact ((ups l fl l).mergeSort fun x y => decide (x ≤ y)) = heldS l fl 1001 := by
  obtain ⟨h1, h2⟩ := compact_asc (ups l fl l)
  refine asc_ext _ _ h1 (range_asc _ _) (fun x => ?_)
  rw [h2]
  simp only [ups, List.mem_map, List.mem_filter, heldS, List.mem_range]
  constructor
  · rintro ⟨n, ⟨hn, hq⟩, rfl⟩
    simp only [upQ, Bool.and_eq_true, beq_iff_eq] at hq
    obtain ⟨⟨q1, q2⟩, q3, q4⟩ := hq
    obtain ⟨m, m1, m2, m3, m4⟩ := owner_note h hn q1
    have hr := who_range h m1 m2
    rw [m4] at q2 q4 ⊢
    simp only at q2 q4 ⊢
    refine ⟨m.f2.toNat, ⟨by omega, ?_⟩, by omega⟩
    have hc : ((m.f2.toNat : Nat) : Int) = m.f2 := by omega
    rw [hc]
    simp only [Bool.and_eq_true, decide_eq_true_eq, heldW, List.any_eq_true]
    refine ⟨by omega, ⟨m, m1, ?_⟩, q4⟩
    simp only [ownsN, m3, m4, m2, beq_self_eq_true, Bool.and_true, Bool.true_and, Bool.and_eq_true, beq_iff_eq]
    exact ⟨q2, q3⟩
  · rintro ⟨w, ⟨hw, hq⟩, rfl⟩
    simp only [Bool.and_eq_true, decide_eq_true_eq, heldW, List.any_eq_true] at hq
    obtain ⟨_, ⟨n, hn, ho⟩, hab⟩ := hq
    simp only [ownsN, Bool.and_eq_true, beq_iff_eq] at ho
    obtain ⟨⟨o1, o2⟩, o3, o4, o5, o6⟩ := ho
    refine ⟨n, ⟨hn, ?_⟩, o4⟩
    simp only [upQ, Bool.and_eq_true, beq_iff_eq]
    exact ⟨⟨o1, o5⟩, o6, by rw [o4]; exact hab⟩
theorem ev_impl_HeldUp (l : List Nt) (fl : Int) (hl : l.length ≤ 1048576) : Ev (fun k => impl_HeldUp.f k l fl) (held l fl) := by
  have hm : l.length ≤ maxLen := by unfold maxLen; omega
  unfold impl_HeldUp.f held
  refine Ev.bd (ev_impl_NotesOk l hm) (Ev.ite (fun h => ?_) (fun h => ?_))
  · rw [if_pos h, ← held_eq l fl h]
    have h0 : ([] : List Int) = ups l fl (l.take 0) := by simp [ups]
    rw [h0]
    refine up_state (fun k s i => impl_HeldUp.l0 k l fl s l (l.length : Int) i) l.length (fun i => ups l fl (l.take i)) _ ?_ ?_ 0 (by omega)
    · refine Ev.step (fun k => impl_HeldUp.l0.eq_2 ..) (Ev.neg (by omega) ?_)
      simp only [List.take_length]
      have hlen : (ups l fl l).length ≤ l.length := by unfold ups; rw [List.length_map]; exact List.length_filter_le _ _
      unfold slices_Sort_int_int.f slices_Compact_int_int.f
      rw [if_pos (by omega)]
      exact Ev.bs (Ev.bs (Ev.now _))
    · intro i hi ih
      have hlen : (ups l fl (l.take i)).length ≤ i := by unfold ups; rw [List.length_map]; exact Nat.le_trans (List.length_filter_le _ _) (by rw [List.length_take]; omega)
      have ht : ups l fl (l.take (i + 1)) = ups l fl (l.take i) ++ ups l fl [l.getD i z25] := by
        rw [List.take_succ_eq_append_getElem hi, List.getD_eq_getElem?_getD, List.getElem?_eq_getElem hi]
        unfold ups
        rw [List.filter_append, List.map_append]
        rfl
      rw [ht] at ih
      refine Ev.step (fun k => impl_HeldUp.l0.eq_2 ..) (Ev.pos (by omega) (Ev.pos (by omega) (Ev.pos (by omega) ?_)))
      simp only [rd_nat, wrap_succ i (by omega)]
      generalize l.getD i z25 = n at ih
      have yes : upQ l fl n = true → ups l fl [n] = [(ownerOf l n.f3).1] := fun h => by simp [ups, h]
      have no : upQ l fl n = false → ups l fl [n] = [] := fun h => by simp [ups, h]
      refine Ev.ite (fun c1 => Ev.bd (ev_impl_OwnerOf l _ hm) (Ev.ite (fun c2 => Ev.bd (ev_impl_Pulled l _ _ hm) (Ev.ite (fun c3 => ?_) (fun c3 => Ev.bd (ev_impl_Aboard l _ _ hm) (Ev.ite (fun c4 => ?_) (fun c4 => Ev.pos (by omega) ?_))))) (fun c2 => ?_))) (fun c1 => ?_)
      · rw [no (by simp [upQ, c3]), List.append_nil] at ih
        exact ih
      · rw [no (by simp [upQ, c4]), List.append_nil] at ih
        exact ih
      · rw [yes (by simp [upQ, c1, c2, c3, c4])] at ih
        exact ih
      · rw [no (by simp [upQ, c2]), List.append_nil] at ih
        exact ih
      · rw [no (by simp [upQ, c1]), List.append_nil] at ih
        exact ih
  · rw [if_neg h]
    exact Ev.now _
theorem held_len (l : List Nt) (fl : Int) : (held l fl).length ≤ 1001 := by
  unfold held
  split
  · exact heldS_len l fl 1001
  · simp
end Go.Proofs.Ytppojihmllmgnaa.F
namespace Go.Proofs.Ytppojihmllmgnaa.F
open Go.RowKit Go.Proofs.YtppojihmllmgnaaW.PrintWords Go.Proofs.YtppojihmllmgnaaW.PrintLast Go.Proofs.Ytppojihmllmgnaa.Opn
set_option linter.unusedVariables false
set_option linter.unusedSimpArgs false
def offl (l : List Nt) (fl : Int) (bags : List Int) : List Int := if notesOk l = true ∧ bags.length ≤ 1000 then bags.filter (fun x => !mayFly l x fl) else []
theorem offl_len (l : List Nt) (fl : Int) (bags : List Int) : (offl l fl bags).length ≤ 1000 := by
  unfold offl
  split
  · rename_i h
    exact Nat.le_trans (List.length_filter_le _ _) h.2
  · exact Nat.zero_le _
theorem Ev.all_some {α : Type} (g : Nat → Int → Option α) (v : Int → α) : ∀ xs : List Int, (∀ x ∈ xs, Ev (fun k => g k x) (v x)) → ∃ K, ∀ k, K ≤ k → ∀ x ∈ xs, g k x = some (v x)
  | [], _ => ⟨0, fun _ _ x hx => absurd hx (by simp)⟩
  | y :: ys, h => by
    obtain ⟨K1, h1⟩ := Ev.all_some g v ys (fun x hx => h x (List.mem_cons_of_mem _ hx))
    obtain ⟨K2, h2⟩ := h y List.mem_cons_self
    refine ⟨max K1 K2, fun k hk x hx => ?_⟩
    rcases List.mem_cons.1 hx with rfl | hx
    · exact h2 k (by omega)
    · exact h1 k (by omega) x hx
theorem ev_impl_OffList (l : List Nt) (fl : Int) (bags : List Int) (hm : l.length ≤ maxLen) : Ev (fun k => impl_OffList.f k l fl bags) (offl l fl bags) := by
  unfold impl_OffList.f offl
  refine Ev.bd (ev_impl_NotesOk l hm) (Ev.ite (fun h => ?_) (fun h => ?_))
  · rw [if_pos h]
    obtain ⟨K, hK⟩ := Ev.all_some (fun k x => impl_MayFly.f k l x fl) (fun x => mayFly l x fl) bags (fun x _ => ev_impl_MayFly l x fl hm)
    refine Ev.from_ K (fun k hk => ?_)
    have hk := hK k hk
    rw [if_pos (List.all_eq_true.2 (fun x hx => by rw [hk x hx]; rfl))]
    congr 1
    refine List.filter_congr (fun x hx => ?_)
    unfold impl_OffList.v
    rw [hk x hx]
    rfl
  · rw [if_neg h]
    exact Ev.now _
theorem ev_spec_OffList (l : List Nt) (fl : Int) (bags : List Int) (hm : l.length ≤ maxLen) (hb : bags.length ≤ 1048576) : Ev (fun k => spec_OffList.f k l fl bags) (offl l fl bags) := by
  unfold spec_OffList.f offl
  by_cases h : notesOk l = true ∧ bags.length ≤ 1000
  · rw [if_pos h]
    refine up_state (fun k s i => spec_OffList.l0 k l fl bags s i) bags.length (fun i => (bags.take i).filter (fun x => !mayFly l x fl)) _ ?_ ?_ 0 (by omega)
    · refine Ev.step (fun k => spec_OffList.l0.eq_2 ..) (Ev.neg (by omega) (Ev.step (fun k => spec_OffList.j1.eq_2 ..) (Ev.neg (by simp) (Ev.some_ ?_))))
      rw [List.take_length]
    · intro i hi ih
      refine Ev.step (fun k => spec_OffList.l0.eq_2 ..) (Ev.pos (by omega) (Ev.pos (by omega) (Ev.bd (ev_spec_NotesOk l) (Ev.step (fun k => spec_OffList.j1.eq_2 ..) (Ev.pos h.1 (Ev.pos (by omega) (Ev.pos (by omega) (Ev.bd (ev_spec_MayFly l _ _ hm) ?_))))))))
      simp only [rd_natI, wrap_succ i (by omega)]
      have hlen : ((bags.take i).filter (fun x => !mayFly l x fl)).length ≤ 1000 := Nat.le_trans (List.length_filter_le _ _) (by rw [List.length_take]; omega)
      have ht : bags.take (i + 1) = bags.take i ++ [bags.getD i 0] := by
        rw [List.take_succ_eq_append_getElem hi, List.getD_eq_getElem?_getD, List.getElem?_eq_getElem hi]; rfl
      simp only [ht, List.filter_append] at ih
      generalize bags.getD i 0 = y at ih ⊢
      refine Ev.ite (fun c => ?_) (fun c => Ev.pos (by omega) ?_)
      · rw [show [y].filter (fun x => !mayFly l x fl) = [] by simp [c], List.append_nil] at ih
        exact ih
      · rw [show [y].filter (fun x => !mayFly l x fl) = [y] by simp [c]] at ih
        exact ih
  · rw [if_neg h]
    refine Ev.step (fun k => spec_OffList.l0.eq_2 ..) (Ev.ite (fun h0 => Ev.ite (fun h1 => Ev.bd (ev_spec_NotesOk l) (Ev.step (fun k => spec_OffList.j1.eq_2 ..) (Ev.neg (fun h2 => h ⟨h2, by omega⟩) (Ev.now _)))) (fun h1 => Ev.step (fun k => spec_OffList.j1.eq_2 ..) (Ev.neg (by simp) (Ev.now _)))) (fun h1 => Ev.step (fun k => spec_OffList.j1.eq_2 ..) (Ev.neg (by simp) (Ev.now _))))
end Go.Proofs.Ytppojihmllmgnaa.F
namespace Go.Proofs.Ytppojihmllmgnaa.F
open Go.RowKit Go.Proofs.YtppojihmllmgnaaW.PrintWords Go.Proofs.YtppojihmllmgnaaW.PrintLast Go.Proofs.Ytppojihmllmgnaa.Opn
set_option linter.unusedVariables false
set_option linter.unusedSimpArgs false
theorem ev_sameInts (l : List Int) (h : l.length ≤ 1048576) : Ev (fun k => laws_sameInts.f k l l) true := by
  unfold laws_sameInts.f
  refine Ev.pos rfl ?_
  refine up_loop (fun k i => laws_sameInts.l0 k l l i) l.length (fun _ => true) ?_ ?_ 0 (by omega)
  · exact Ev.step (fun k => laws_sameInts.l0.eq_2 ..) (Ev.neg (by omega) (Ev.now _))
  · intro i hi ih
    refine Ev.step (fun k => laws_sameInts.l0.eq_2 ..) (Ev.pos (by omega) (Ev.pos (by omega) (Ev.pos (by omega) (Ev.pos rfl ?_))))
    simp only [wrap_succ i (by omega)]
    exact ih
theorem ev_has (l : List Int) (y : Int) (hl : l.length ≤ 1048576) : Ev (fun k => laws_has.f k l y) (l.contains y) := by
  unfold laws_has.f
  have key := up_loop (fun k i => laws_has.l0 k l y i) l.length (fun i => (l.drop i).contains y) ?_ ?_ 0 (by omega)
  · simpa only [List.drop_zero, Int.natCast_zero] using key
  · refine Ev.step (fun k => laws_has.l0.eq_2 ..) (Ev.neg (by omega) (Ev.some_ ?_))
    simp
  · intro i hi ih
    have hd : l.drop i = l.getD i 0 :: l.drop (i + 1) := by
      rw [List.drop_eq_getElem_cons hi, List.getD_eq_getElem?_getD, List.getElem?_eq_getElem hi]; rfl
    refine Ev.step (fun k => laws_has.l0.eq_2 ..) (Ev.pos (by omega) (Ev.pos (by omega) ?_))
    simp only [rd_natI, wrap_succ i (by omega), hd, List.contains_cons]
    refine Ev.ite (fun c => Ev.some_ ?_) (fun c => ?_)
    · rw [c]; simp
    · have : (y == l.getD i 0) = false := beq_eq_false_iff_ne.2 (fun e => c e.symm)
      rw [this, Bool.false_or]
      exact ih
/-- Who owns a bag of the flight that was not pulled is held up just if he is not aboard. -/
theorem held_owner (l : List Nt) (bag fl : Int) (h1 : (ownerOf l bag).2.2 = true) (h2 : (ownerOf l bag).2.1 = fl) (h3 : pulled l bag fl = false) : (held l fl).contains (ownerOf l bag).1 = !aboard l (ownerOf l bag).1 fl := by
  have hm : ∃ m, lastN (ownerP bag) l = some m := by
    unfold ownerOf at h1
    cases hq : lastN (ownerP bag) l with
    | none => rw [hq] at h1; cases h1
    | some m => exact ⟨m, rfl⟩
  obtain ⟨m, hm⟩ := hm
  have ho : ownerOf l bag = (m.f2, m.f4, true) := by unfold ownerOf; rw [hm]
  have hok : notesOk l = true := by
    unfold lastN at hm
    split at hm
    · assumption
    · cases hm
  have hm' : lastP (ownerP bag) l = some m := by unfold lastN at hm; rwa [if_pos hok] at hm
  obtain ⟨hml, hmp⟩ := lastP_some hm'
  unfold ownerP at hmp
  simp only [Bool.and_eq_true, beq_iff_eq] at hmp
  obtain ⟨p1, p3⟩ := hmp
  have hr := who_range hok hml p1
  rw [ho] at h2 ⊢
  simp only at h2 ⊢
  have hx : l.any (ownsN l fl m.f2) = true := by
    rw [List.any_eq_true]
    refine ⟨m, hml, ?_⟩
    unfold ownsN
    rw [p3, ho, p1]
    simp only at h2 ⊢
    rw [h2, h3]
    simp
  unfold held
  rw [if_pos hok]
  have hw : heldW l fl m.f2 = !aboard l m.f2 fl := by unfold heldW; rw [hx, Bool.true_and]
  rw [Bool.eq_iff_iff]
  constructor
  · intro hc
    have hc := List.contains_iff_mem.1 hc
    unfold heldS at hc
    obtain ⟨w, hw1, hw2⟩ := List.mem_map.1 hc
    have hf := (List.mem_filter.1 hw1).2
    simp only [Bool.and_eq_true] at hf
    rw [hw2, hw] at hf
    exact hf.2
  · intro hc
    refine List.contains_iff_mem.2 (List.mem_map.2 ⟨m.f2.toNat, List.mem_filter.2 ⟨List.mem_range.2 (by omega), ?_⟩, by omega⟩)
    have e : ((m.f2.toNat : Nat) : Int) = m.f2 := by omega
    rw [e, hw, hc]
    simp
    omega
theorem off_not (l : List Nt) (bag fl : Int) (xs : List Int) (h : mayFly l bag fl = true) : (offl l fl xs).contains bag = false := by
  rw [Bool.eq_false_iff]
  intro hc
  have hc := List.contains_iff_mem.1 hc
  unfold offl at hc
  split at hc
  · have := (List.mem_filter.1 hc).2
    rw [h] at this
    cases this
  · exact absurd hc (by simp)
theorem law_MayFly (l : List Nt) (bag fl : Int) (hl : l.length ≤ 100) :
    Ev (fun k => laws_FnMayFly.j0 k l bag fl (mayFly l bag fl) (ownerOf l bag).2.2 false (ownerOf l bag).1 (ownerOf l bag).2.1) true := by
  have hm : l.length ≤ maxLen := by unfold maxLen; omega
  have h1 := held_len l fl
  have h2 := offl_len l fl [bag, wrap64 (bag + 1), bag]
  refine Ev.step (fun k => laws_FnMayFly.j0.eq_2 ..) (Ev.neg (by simp) (Ev.bd (ev_impl_HeldUp l fl (by omega)) (Ev.bd (ev_impl_OffList l fl _ hm) (Ev.bd (ev_spec_HeldUp l fl (by omega)) (Ev.bd (ev_sameInts _ (by omega)) (Ev.pos rfl (Ev.bd (ev_spec_OffList l fl _ hm (by simp)) (Ev.bd (ev_sameInts _ (by omega)) ?_))))))))
  refine Ev.step (fun k => laws_FnMayFly.j1.eq_2 ..) (Ev.neg (by simp) ?_)
  have fin : Ev (fun k => laws_FnMayFly.j2 k l bag fl (mayFly l bag fl) (ownerOf l bag).2.2 (offl l fl [bag, wrap64 (bag + 1), bag]) false (ownerOf l bag).1 (ownerOf l bag).2.1) true := by
    refine Ev.step (fun k => laws_FnMayFly.j2.eq_2 ..) (Ev.neg (by simp) (Ev.ite (fun c => ?_) (fun c => Ev.now _)))
    have c' := c
    unfold mayFly at c'
    simp only [Bool.and_eq_true, beq_iff_eq, Bool.not_eq_true'] at c'
    obtain ⟨d1, d2, d3, d4⟩ := c'
    refine Ev.pos d1 (Ev.pos d2 (Ev.bd (ev_impl_Aboard l _ fl hm) (Ev.pos d3 (Ev.bd (ev_has _ bag (by omega)) (Ev.some_ ?_)))))
    rw [off_not l bag fl _ c]
    rfl
  refine Ev.ite (fun c1 => Ev.ite (fun c2 => Ev.bd (ev_impl_Pulled l bag fl hm) (Ev.ite (fun c3 => fin) (fun c3 => Ev.bd (ev_has _ _ (by omega)) ?_))) (fun c2 => fin)) (fun c1 => fin)
  have c3' : pulled l bag fl = false := by simpa using c3
  have hh := held_owner l bag fl c1 c2 c3'
  have hmf : mayFly l bag fl = aboard l (ownerOf l bag).1 fl := by
    unfold mayFly
    rw [c1, c2, c3']
    simp
  have he : ((held l fl).contains (ownerOf l bag).1 == mayFly l bag fl) = false := by
    rw [hh, hmf]
    cases aboard l (ownerOf l bag).1 fl <;> rfl
  rw [he]
  exact fin
end Go.Proofs.Ytppojihmllmgnaa.F
namespace Go.Proofs.Ytppojihmllmgnaa.Pure
open Go.RowKit Go.Proofs.YtppojihmllmgnaaW.PrintWords Go.Proofs.Ytppojihmllmgnaa.Opn Go.Proofs.Ytppojihmllmgnaa.F
theorem FnMayFly : laws_FnMayFly.Pure := by
  rintro code ⟨hx, _⟩
  refine Ev.rounds ?_
  suffices h0 : Ev (fun k => laws_FnMayFly.f0 k code) true by
    obtain ⟨K, hK⟩ := h0
    exact Ev.from_ K (fun k hk => by unfold laws_FnMayFly.f; rw [if_pos (hK k hk)])
  unfold laws_FnMayFly.f0 laws_big.f
  refine Ev.bs (Ev.ite (fun _ => Ev.now _) (fun hbig => ?_))
  have hb : code.length ≤ 1048576 := by
    have : (code.length : Int) ≤ 1048576 := by simpa using hbig
    omega
  obtain ⟨h0, e0⟩ := ev_new code hb
  obtain ⟨l, i1, h1, e1, hl, c1⟩ := ev_any code hb 0 h0 (cok_zero code)
  obtain ⟨bag, i2, h2, e2, p2, _, p2', c2⟩ := d_below code hb i1 h1 8 c1
  obtain ⟨fl0, i3, h3, e3, _, _, _, c3⟩ := d_below code hb i2 h2 5 c2
  have hm : l.length ≤ maxLen := by unfold maxLen; omega
  have draw : ∃ fl, Ev (fun k => spec_DrawMayFly.f k code) (l, bag, fl) := by
    unfold spec_DrawMayFly.f
    by_cases q : (ownerOf l bag).2.2 = true
    · obtain ⟨x, i4, h4, e4, _⟩ := d_once code hb i3 h3 2 c3
      by_cases qx : x = true
      · exact ⟨_, Ev.bd e0 (Ev.bd e1 (Ev.bd' e2 (Ev.bd' e3 (Ev.bd (ev_spec_OwnerOf l bag hm) (Ev.pos q (Ev.bd' e4 (Ev.pos qx (Ev.now _))))))))⟩
      · exact ⟨_, Ev.bd e0 (Ev.bd e1 (Ev.bd' e2 (Ev.bd' e3 (Ev.bd (ev_spec_OwnerOf l bag hm) (Ev.pos q (Ev.bd' e4 (Ev.neg qx (Ev.now _))))))))⟩
    · exact ⟨_, Ev.bd e0 (Ev.bd e1 (Ev.bd' e2 (Ev.bd' e3 (Ev.bd (ev_spec_OwnerOf l bag hm) (Ev.neg q (Ev.now _))))))⟩
  obtain ⟨fl, ed⟩ := draw
  refine Ev.bd ed (Ev.bd (ev_impl_MayFly l bag fl hm) (Ev.bd (ev_impl_OwnerOf l bag hm) (Ev.bd (ev_spec_OwnerOf l bag hm) (Ev.bd (ev_spec_MayFly l bag fl hm) (Ev.neg (by simp) (Ev.neg (by simp) (Ev.neg (by simp) (Ev.bd (ev_impl_Pulled l bag fl hm) (Ev.bd (ev_spec_Pulled l bag fl hm) (Ev.neg (by simp) (Ev.bd (ev_impl_Aboard l _ fl hm) (Ev.bd (ev_spec_Aboard l _ fl hm) ?_))))))))))))
  have := law_MayFly l bag fl hl
  simpa using this
end Go.Proofs.Ytppojihmllmgnaa.Pure
