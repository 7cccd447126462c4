-- PRINTED by print.py (a twelfth state) out of the translation. Not trusted: Lean checks it.
import Derived.Test.YtppojihmllmgnaaF
import Derived.Test.YtppojihmllmgnaaF25
import Derived.Test.YtppojihmllmgnaaF66
namespace Go.Proofs.Ytppojihmllmgnaa.F
open Go.Proofs.Ytppojihmllmgnaa.Opn
open Go.RowKit Go.Proofs.YtppojihmllmgnaaW.PrintWords Go.Proofs.YtppojihmllmgnaaW.PrintLast
set_option linter.unusedVariables false
set_option linter.unusedSimpArgs false

/-! ### impl_Aboard_1__impl_lastNote: closure 67x66 -/
def impl_Aboard_1__impl_lastNote.p (a1 a2 : Int) (x : S25) : Bool := ((x.f1 == 2 || x.f1 == 3) && x.f2 == a1) && x.f4 == a2
def impl_Aboard_1__impl_lastNote.f (k : Nat) (l0 : List S25) (a1 a2 : Int) : Option (Int × Int × Int × Int × Int × Bool) := (impl_NotesOk.f k l0).bind fun b => (fun (o : Option S25) => some ((o.getD z25).f0, (o.getD z25).f1, (o.getD z25).f2, (o.getD z25).f3, (o.getD z25).f4, o.isSome)) (if b then lastP (impl_Aboard_1__impl_lastNote.p a1 a2) l0 else none)
theorem impl_Aboard_1__impl_lastNote.mono : ∀ l0 a1 a2 k, LeO (impl_Aboard_1__impl_lastNote.f k l0 a1 a2) (impl_Aboard_1__impl_lastNote.f (k + 1) l0 a1 a2) := by
 intro l0 a1 a2 k
 unfold impl_Aboard_1__impl_lastNote.f
 exact LeO.bind (impl_NotesOk.mono _ _) (fun _ => LeO.refl _)
set_option maxHeartbeats 2000000 in
theorem impl_Aboard_1__impl_lastNote.closure (a1 a2 : Int) (B1 B2 : Nat) (w : World) (hb1 : w.heap[B1]? = some (.cells #[.int .i64 a1] 3 (0, 0))) (hb2 : w.heap[B2]? = some (.cells #[.int .i64 a2] 3 (0, 0))) :
  ∀ (W : World) (x : S25), Below w.heap.size w W → Calls Try.prog 67 (#[.agg #[.int .i64 x.f0, .int .i64 x.f1, .int .i64 x.f2, .int .i64 x.f3, .int .i64 x.f4]] ++ #[.pointer (some ⟨B1, 0, none⟩), .pointer (some ⟨B2, 0, none⟩)]) W fun e w' => e = .returned (.bool (impl_Aboard_1__impl_lastNote.p a1 a2 x)) ∧ Below W.heap.size W w' := by
 intro W x hb
 have c1 : W.cell? ⟨B1, 0, none⟩ = some (.int .i64 a1) := (blk_cell (blk_below hb1 hb) 0).trans rfl
 have l1 : B1 < W.heap.size := blk_lt (blk_below hb1 hb)
 have n1 : B1 ≠ W.heap.size := by omega
 have c2 : W.cell? ⟨B2, 0, none⟩ = some (.int .i64 a2) := (blk_cell (blk_below hb2 hb) 0).trans rfl
 have l2 : B2 < W.heap.size := blk_lt (blk_below hb2 hb)
 have n2 : B2 ≠ W.heap.size := by omega
 clear hb hb1 hb2
 show Calls Try.prog 67 #[.agg #[.int .i64 x.f0, .int .i64 x.f1, .int .i64 x.f2, .int .i64 x.f3, .int .i64 x.f4], .pointer (some ⟨B1, 0, none⟩), .pointer (some ⟨B2, 0, none⟩)] W _
 obtain ⟨q, hq⟩ : ∃ q, impl_Aboard_1__impl_lastNote.p a1 a2 x = q := ⟨_, rfl⟩
 rw [hq]
 unfold impl_Aboard_1__impl_lastNote.p at hq
 have Q := Aside0.mk hq
 clear hq
 rcases Bool.eq_false_or_eq_true (x.f1 == 2) with h0 | h0
 all_goals rcases Bool.eq_false_or_eq_true (x.f1 == 3) with h1 | h1
 all_goals rcases Bool.eq_false_or_eq_true (x.f2 == a1) with h2 | h2
 all_goals rcases Bool.eq_false_or_eq_true (x.f4 == a2) with h3 | h3
 all_goals
  have hq := Q.out
  clear Q
  simp only [h0, h1, h2, h3, Bool.true_and, Bool.false_and, Bool.and_true, Bool.and_false, Bool.true_or, Bool.false_or, Bool.or_true, Bool.or_false] at hq
  subst hq
  go_enter Try.func67, Try.ntmps67
  go_wp2
  go_ret
  exact ⟨rfl, below_alloc (Below.refl _ _) _⟩
theorem impl_Aboard_1__impl_lastNote.calls (k : Nat) (A0 : Option Addr) (c0 : Nat) (l0 : List S25) (a1 a2 : Int) (B1 B2 : Nat) (r1 r2 r3 r4 r5 : Int) (r6 : Bool) (w : World) (hr0 : Kd.C k25 w A0 l0.length l0) (hc0 : l0.length ≤ c0) (hb1 : w.heap[B1]? = some (.cells #[.int .i64 a1] 3 (0, 0))) (hb2 : w.heap[B2]? = some (.cells #[.int .i64 a2] 3 (0, 0))) (h : impl_Aboard_1__impl_lastNote.f k l0 a1 a2 = some (r1, r2, r3, r4, r5, r6)) :
  Calls Try.prog 66 #[.slice A0 l0.length c0, .func (.func 67) #[] #[.pointer (some ⟨B1, 0, none⟩), .pointer (some ⟨B2, 0, none⟩)]] w fun e w' => e = .returned (.tuple #[.agg #[.int .i64 r1, .int .i64 r2, .int .i64 r3, .int .i64 r4, .int .i64 r5], .bool r6]) ∧ Below w.heap.size w w' := by
 obtain ⟨b, hok, h⟩ := Option.bind_eq_some_iff.1 h
 have he := Option.some.inj h
 simp only [Prod.mk.injEq] at he
 obtain ⟨rfl, rfl, rfl, rfl, rfl, rfl⟩ := he
 exact impl_lastNote.callsFn _ _ _ (enters_ Try.func67 (by kernel_rfl) rfl) k b _ A0 c0 l0 rfl w hr0 hc0 hok (impl_Aboard_1__impl_lastNote.closure a1 a2 B1 B2 w hb1 hb2)

/-! ### impl_Pulled_1__impl_lastNote: closure 68x66 -/
def impl_Pulled_1__impl_lastNote.p (a1 a2 : Int) (x : S25) : Bool := ((x.f1 == 1 || x.f1 == 4) && x.f3 == a1) && x.f4 == a2
def impl_Pulled_1__impl_lastNote.f (k : Nat) (l0 : List S25) (a1 a2 : Int) : Option (Int × Int × Int × Int × Int × Bool) := (impl_NotesOk.f k l0).bind fun b => (fun (o : Option S25) => some ((o.getD z25).f0, (o.getD z25).f1, (o.getD z25).f2, (o.getD z25).f3, (o.getD z25).f4, o.isSome)) (if b then lastP (impl_Pulled_1__impl_lastNote.p a1 a2) l0 else none)
theorem impl_Pulled_1__impl_lastNote.mono : ∀ l0 a1 a2 k, LeO (impl_Pulled_1__impl_lastNote.f k l0 a1 a2) (impl_Pulled_1__impl_lastNote.f (k + 1) l0 a1 a2) := by
 intro l0 a1 a2 k
 unfold impl_Pulled_1__impl_lastNote.f
 exact LeO.bind (impl_NotesOk.mono _ _) (fun _ => LeO.refl _)
set_option maxHeartbeats 2000000 in
theorem impl_Pulled_1__impl_lastNote.closure (a1 a2 : Int) (B1 B2 : Nat) (w : World) (hb1 : w.heap[B1]? = some (.cells #[.int .i64 a1] 3 (0, 0))) (hb2 : w.heap[B2]? = some (.cells #[.int .i64 a2] 3 (0, 0))) :
  ∀ (W : World) (x : S25), Below w.heap.size w W → Calls Try.prog 68 (#[.agg #[.int .i64 x.f0, .int .i64 x.f1, .int .i64 x.f2, .int .i64 x.f3, .int .i64 x.f4]] ++ #[.pointer (some ⟨B1, 0, none⟩), .pointer (some ⟨B2, 0, none⟩)]) W fun e w' => e = .returned (.bool (impl_Pulled_1__impl_lastNote.p a1 a2 x)) ∧ Below W.heap.size W w' := by
 intro W x hb
 have c1 : W.cell? ⟨B1, 0, none⟩ = some (.int .i64 a1) := (blk_cell (blk_below hb1 hb) 0).trans rfl
 have l1 : B1 < W.heap.size := blk_lt (blk_below hb1 hb)
 have n1 : B1 ≠ W.heap.size := by omega
 have c2 : W.cell? ⟨B2, 0, none⟩ = some (.int .i64 a2) := (blk_cell (blk_below hb2 hb) 0).trans rfl
 have l2 : B2 < W.heap.size := blk_lt (blk_below hb2 hb)
 have n2 : B2 ≠ W.heap.size := by omega
 clear hb hb1 hb2
 show Calls Try.prog 68 #[.agg #[.int .i64 x.f0, .int .i64 x.f1, .int .i64 x.f2, .int .i64 x.f3, .int .i64 x.f4], .pointer (some ⟨B1, 0, none⟩), .pointer (some ⟨B2, 0, none⟩)] W _
 obtain ⟨q, hq⟩ : ∃ q, impl_Pulled_1__impl_lastNote.p a1 a2 x = q := ⟨_, rfl⟩
 rw [hq]
 unfold impl_Pulled_1__impl_lastNote.p at hq
 have Q := Aside0.mk hq
 clear hq
 rcases Bool.eq_false_or_eq_true (x.f1 == 1) with h0 | h0
 all_goals rcases Bool.eq_false_or_eq_true (x.f1 == 4) with h1 | h1
 all_goals rcases Bool.eq_false_or_eq_true (x.f3 == a1) with h2 | h2
 all_goals rcases Bool.eq_false_or_eq_true (x.f4 == a2) with h3 | h3
 all_goals
  have hq := Q.out
  clear Q
  simp only [h0, h1, h2, h3, Bool.true_and, Bool.false_and, Bool.and_true, Bool.and_false, Bool.true_or, Bool.false_or, Bool.or_true, Bool.or_false] at hq
  subst hq
  go_enter Try.func68, Try.ntmps68
  go_wp2
  go_ret
  exact ⟨rfl, below_alloc (Below.refl _ _) _⟩
theorem impl_Pulled_1__impl_lastNote.calls (k : Nat) (A0 : Option Addr) (c0 : Nat) (l0 : List S25) (a1 a2 : Int) (B1 B2 : Nat) (r1 r2 r3 r4 r5 : Int) (r6 : Bool) (w : World) (hr0 : Kd.C k25 w A0 l0.length l0) (hc0 : l0.length ≤ c0) (hb1 : w.heap[B1]? = some (.cells #[.int .i64 a1] 3 (0, 0))) (hb2 : w.heap[B2]? = some (.cells #[.int .i64 a2] 3 (0, 0))) (h : impl_Pulled_1__impl_lastNote.f k l0 a1 a2 = some (r1, r2, r3, r4, r5, r6)) :
  Calls Try.prog 66 #[.slice A0 l0.length c0, .func (.func 68) #[] #[.pointer (some ⟨B1, 0, none⟩), .pointer (some ⟨B2, 0, none⟩)]] w fun e w' => e = .returned (.tuple #[.agg #[.int .i64 r1, .int .i64 r2, .int .i64 r3, .int .i64 r4, .int .i64 r5], .bool r6]) ∧ Below w.heap.size w w' := by
 obtain ⟨b, hok, h⟩ := Option.bind_eq_some_iff.1 h
 have he := Option.some.inj h
 simp only [Prod.mk.injEq] at he
 obtain ⟨rfl, rfl, rfl, rfl, rfl, rfl⟩ := he
 exact impl_lastNote.callsFn _ _ _ (enters_ Try.func68 (by kernel_rfl) rfl) k b _ A0 c0 l0 rfl w hr0 hc0 hok (impl_Pulled_1__impl_lastNote.closure a1 a2 B1 B2 w hb1 hb2)

/-! ### impl_OwnerOf_1__impl_lastNote: closure 69x66 -/
def impl_OwnerOf_1__impl_lastNote.p (a1 : Int) (x : S25) : Bool := x.f1 == 1 && x.f3 == a1
def impl_OwnerOf_1__impl_lastNote.f (k : Nat) (l0 : List S25) (a1 : Int) : Option (Int × Int × Int × Int × Int × Bool) := (impl_NotesOk.f k l0).bind fun b => (fun (o : Option S25) => some ((o.getD z25).f0, (o.getD z25).f1, (o.getD z25).f2, (o.getD z25).f3, (o.getD z25).f4, o.isSome)) (if b then lastP (impl_OwnerOf_1__impl_lastNote.p a1) l0 else none)
theorem impl_OwnerOf_1__impl_lastNote.mono : ∀ l0 a1 k, LeO (impl_OwnerOf_1__impl_lastNote.f k l0 a1) (impl_OwnerOf_1__impl_lastNote.f (k + 1) l0 a1) := by
 intro l0 a1 k
 unfold impl_OwnerOf_1__impl_lastNote.f
 exact LeO.bind (impl_NotesOk.mono _ _) (fun _ => LeO.refl _)
set_option maxHeartbeats 2000000 in
theorem impl_OwnerOf_1__impl_lastNote.closure (a1 : Int) (B1 : Nat) (w : World) (hb1 : w.heap[B1]? = some (.cells #[.int .i64 a1] 3 (0, 0))) :
  ∀ (W : World) (x : S25), Below w.heap.size w W → Calls Try.prog 69 (#[.agg #[.int .i64 x.f0, .int .i64 x.f1, .int .i64 x.f2, .int .i64 x.f3, .int .i64 x.f4]] ++ #[.pointer (some ⟨B1, 0, none⟩)]) W fun e w' => e = .returned (.bool (impl_OwnerOf_1__impl_lastNote.p a1 x)) ∧ Below W.heap.size W w' := by
 intro W x hb
 have c1 : W.cell? ⟨B1, 0, none⟩ = some (.int .i64 a1) := (blk_cell (blk_below hb1 hb) 0).trans rfl
 have l1 : B1 < W.heap.size := blk_lt (blk_below hb1 hb)
 have n1 : B1 ≠ W.heap.size := by omega
 clear hb hb1
 show Calls Try.prog 69 #[.agg #[.int .i64 x.f0, .int .i64 x.f1, .int .i64 x.f2, .int .i64 x.f3, .int .i64 x.f4], .pointer (some ⟨B1, 0, none⟩)] W _
 obtain ⟨q, hq⟩ : ∃ q, impl_OwnerOf_1__impl_lastNote.p a1 x = q := ⟨_, rfl⟩
 rw [hq]
 unfold impl_OwnerOf_1__impl_lastNote.p at hq
 have Q := Aside0.mk hq
 clear hq
 rcases Bool.eq_false_or_eq_true (x.f1 == 1) with h0 | h0
 all_goals rcases Bool.eq_false_or_eq_true (x.f3 == a1) with h1 | h1
 all_goals
  have hq := Q.out
  clear Q
  simp only [h0, h1, Bool.true_and, Bool.false_and, Bool.and_true, Bool.and_false, Bool.true_or, Bool.false_or, Bool.or_true, Bool.or_false] at hq
  subst hq
  go_enter Try.func69, Try.ntmps69
  go_wp2
  go_ret
  exact ⟨rfl, below_alloc (Below.refl _ _) _⟩
theorem impl_OwnerOf_1__impl_lastNote.calls (k : Nat) (A0 : Option Addr) (c0 : Nat) (l0 : List S25) (a1 : Int) (B1 : Nat) (r1 r2 r3 r4 r5 : Int) (r6 : Bool) (w : World) (hr0 : Kd.C k25 w A0 l0.length l0) (hc0 : l0.length ≤ c0) (hb1 : w.heap[B1]? = some (.cells #[.int .i64 a1] 3 (0, 0))) (h : impl_OwnerOf_1__impl_lastNote.f k l0 a1 = some (r1, r2, r3, r4, r5, r6)) :
  Calls Try.prog 66 #[.slice A0 l0.length c0, .func (.func 69) #[] #[.pointer (some ⟨B1, 0, none⟩)]] w fun e w' => e = .returned (.tuple #[.agg #[.int .i64 r1, .int .i64 r2, .int .i64 r3, .int .i64 r4, .int .i64 r5], .bool r6]) ∧ Below w.heap.size w w' := by
 obtain ⟨b, hok, h⟩ := Option.bind_eq_some_iff.1 h
 have he := Option.some.inj h
 simp only [Prod.mk.injEq] at he
 obtain ⟨rfl, rfl, rfl, rfl, rfl, rfl⟩ := he
 exact impl_lastNote.callsFn _ _ _ (enters_ Try.func69 (by kernel_rfl) rfl) k b _ A0 c0 l0 rfl w hr0 hc0 hok (impl_OwnerOf_1__impl_lastNote.closure a1 B1 w hb1)

end Go.Proofs.Ytppojihmllmgnaa.F
