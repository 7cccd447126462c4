-- PRINTED by print.py (a twelfth state) out of the translation. Not trusted: Lean checks it.
import Derived.Test.YtppojihmllmgnaaF
import Derived.Test.YtppojihmllmgnaaShelf
import Derived.Test.YtppojihmllmgnaaRowSortK
import Derived.Test.YtppojihmllmgnaaF96
namespace Go.Proofs.Ytppojihmllmgnaa.F
open Go.Proofs.Ytppojihmllmgnaa.Opn
open Go.RowKit Go.Proofs.YtppojihmllmgnaaW.PrintWords Go.Proofs.YtppojihmllmgnaaW.PrintLast
set_option linter.unusedVariables false
set_option linter.unusedSimpArgs false

/-! ### impl_AddNote_1__slices_SortFunc_impl_Note: closure 80x79 -/
-- use Shelf
-- use RowSortK
instance : Inhabited S25 := ⟨z25⟩
def encNote (x : S25) : List Value := [.int .i64 x.f0, .int .i64 x.f1, .int .i64 x.f2, .int .i64 x.f3, .int .i64 x.f4]
def cmpI (x y : Int) : Int := if x < y then -1 else if x > y then 1 else 0
def impl_AddNote_1__slices_SortFunc_impl_Note.f (l0 : List S25) : Option (List S25) := if 0 < l0.length ∧ l0.length < 140737488355328 ∧ (l0.map (·.f0)).Nodup then some (l0.mergeSort fun x y => decide (x.f0 ≤ y.f0)) else none
theorem cmpI_lt (x y : Int) : decide (cmpI x y < 0) = decide (x < y) := by
  refine decide_eq_decide.2 ?_
  unfold cmpI
  split
  · rename_i h; exact ⟨fun _ => h, fun _ => by omega⟩
  · rename_i h
    split
    · exact ⟨fun h' => by omega, fun h' => absurd h' h⟩
    · exact ⟨fun h' => by omega, fun h' => absurd h' h⟩
theorem cmp_Compare_int.drawn (a b : Int) (w : World) : Calls Try.prog 81 #[.int .i64 a, .int .i64 b] w fun e w' => e = .returned (.int .i64 (cmpI a b)) ∧ Drawn0 w w' := by
  have ha := Aside0.mk (cmp_isNaN_int.calls a false w (by simp [cmp_isNaN_int.f]))
  have hb := Aside0.mk (fun w' : World => cmp_isNaN_int.calls b false w' (by simp [cmp_isNaN_int.f]))
  unfold cmpI
  by_cases h1 : a < b
  · have d1 : decide (a < b) = true := decide_eq_true h1
    rw [if_pos h1]
    clear h1
    go_enter Try.func81, Try.ntmps81
    go_wp2_with fail
    refine ha.out.mono ?_
    rintro e w' ⟨rfl, n1, rfl⟩
    go_wp2_with fail
    refine (hb.out _).mono ?_
    rintro e w' ⟨rfl, n2, rfl⟩
    go_wp2
    go_ret
    exact ⟨rfl, ⟨_, rfl⟩⟩
  · have d1 : decide (a < b) = false := decide_eq_false h1
    rw [if_neg h1]
    by_cases h2 : a > b
    · have d2 : decide (a > b) = true := decide_eq_true h2
      have d3 : decide (b < a) = true := decide_eq_true h2
      rw [if_pos h2]
      clear h1 h2
      go_enter Try.func81, Try.ntmps81
      go_wp2_with fail
      refine ha.out.mono ?_
      rintro e w' ⟨rfl, n1, rfl⟩
      go_wp2_with fail
      refine (hb.out _).mono ?_
      rintro e w' ⟨rfl, n2, rfl⟩
      go_wp2
      go_ret
      exact ⟨rfl, ⟨_, rfl⟩⟩
    · have d2 : decide (a > b) = false := decide_eq_false h2
      have d3 : decide (b < a) = false := decide_eq_false h2
      rw [if_neg h2]
      clear h1 h2
      go_enter Try.func81, Try.ntmps81
      go_wp2_with fail
      refine ha.out.mono ?_
      rintro e w' ⟨rfl, n1, rfl⟩
      go_wp2_with fail
      refine (hb.out _).mono ?_
      rintro e w' ⟨rfl, n2, rfl⟩
      go_wp2
      go_ret
      exact ⟨rfl, ⟨_, rfl⟩⟩
theorem impl_AddNote_1__slices_SortFunc_impl_Note.closure (W : World) (x y : S25) :
    Calls Try.prog 80 (#[Value.agg (encNote x).toArray, Value.agg (encNote y).toArray] ++ #[]) W fun e w' => e = .returned (.int .i64 (cmpI x.f0 y.f0)) ∧ ∃ q os', w' = Go.Sort.grow (W.drewN q) os' := by
  have hc := Aside0.mk (fun W' : World => cmp_Compare_int.drawn x.f0 y.f0 W')
  generalize cmpI x.f0 y.f0 = q at hc
  show Calls Try.prog 80 #[.agg #[.int .i64 x.f0, .int .i64 x.f1, .int .i64 x.f2, .int .i64 x.f3, .int .i64 x.f4], .agg #[.int .i64 y.f0, .int .i64 y.f1, .int .i64 y.f2, .int .i64 y.f3, .int .i64 y.f4]] W _
  go_enter Try.func80, Try.ntmps80
  go_wp2_with fail
  refine (hc.out _).mono ?_
  rintro e w' ⟨rfl, n1, rfl⟩
  go_wp2
  go_ret
  refine ⟨rfl, n1, #[.cells #[.int .i64 x.f0, .int .i64 x.f1, .int .i64 x.f2, .int .i64 x.f3, .int .i64 x.f4] 25, .cells #[.int .i64 y.f0, .int .i64 y.f1, .int .i64 y.f2, .int .i64 y.f3, .int .i64 y.f4] 25], ?_⟩
  rw [Go.Sort.alloc_eq_grow, Go.Sort.alloc_eq_grow, Go.Sort.grow_grow]
  rfl
set_option maxRecDepth 100000 in
theorem impl_AddNote_1__slices_SortFunc_impl_Note.calls (P0_ : Nat → Prop) (u9000_ : Value) (l0 : List S25) (r : List S25) (w0 w : World) (hB : Below w0.heap.size w0 w) (ho0 : Kd.R k25 25 w w0.heap.size P0_ u9000_ l0) (h : impl_AddNote_1__slices_SortFunc_impl_Note.f l0 = some r) :
    Calls Try.prog 79 #[u9000_, .func (.func 80) #[] #[]] w fun e w' => e = .returned (.tuple #[]) ∧ Kd.R k25 25 w' w0.heap.size (fun k_ => (P0_ k_ ∨ w.heap.size ≤ k_)) u9000_ r ∧ Below w0.heap.size w0 w' ∧ Kept w w' (fun k_ => P0_ k_) := by
  unfold impl_AddNote_1__slices_SortFunc_impl_Note.f at h
  split at h
  · rename_i hsz
    obtain ⟨hp, hsz, hnd⟩ := hsz
    obtain rfl := Option.some.inj h
    obtain ⟨g, cap, rfl, _, _, _⟩ := Kd.R_form ho0 hp
    obtain ⟨_, hlt, hok, hH⟩ := R_holdsK encNote (fun _ => rfl) (by decide) (fun h => k25_openM h) ho0
    have hswo : Go.Sort.SWO (ltOf (fun x y : S25 => cmpI x.f0 y.f0)) := by
      refine ⟨fun x => ?_, fun x y z h1 h2 => ?_, fun x y z h1 h2 => ?_⟩
      · simp only [ltOf, cmpI_lt, decide_eq_false_iff_not]; omega
      · simp only [ltOf, cmpI_lt, decide_eq_true_eq] at h1 h2 ⊢; omega
      · simp only [ltOf, cmpI_lt, decide_eq_false_iff_not] at h1 h2 ⊢; omega
    have hcall := AnyQ.slices_SortFunc Try.l79 5 (fun _ => rfl) (fun _ => rfl) encNote (fun _ => rfl) (fun x v hv => by
      simp only [encNote, List.mem_cons, List.mem_nil_iff, or_false] at hv
      rcases hv with rfl | rfl | rfl | rfl | rfl <;> rfl) (fun x y : S25 => cmpI x.f0 y.f0) hswo 80 #[] g 0 cap l0.toArray w (enters_ Try.func80 (by kernel_rfl) rfl)
      (fun m os dk _ x y => impl_AddNote_1__slices_SortFunc_impl_Note.closure _ x y) hH hlt (by simp; omega)
    have hcall2 : Calls Try.prog 79 #[Value.slice (some ⟨g, 0, none⟩) l0.length cap, .func (.func 80) #[] #[]] w _ := hcall
    refine hcall2.mono ?_
    rintro e w' ⟨rfl, d', q, os, hperm, hsorted, rfl⟩
    obtain ⟨p1, p2, p3⟩ := hperm
    have hds : d'.size = l0.length := by simpa using p1
    have hpm : d'.toList.Perm l0 := by
      have e1 : (d'.extract 0 l0.toArray.size).toList = d'.toList := by rw [show l0.toArray.size = d'.size by simp [hds]]; simp
      have e2 : (l0.toArray.extract 0 l0.toArray.size).toList = l0 := by simp
      rw [e1, e2] at p3
      exact p3
    have hpw : d'.toList.Pairwise (fun a b => a.f0 ≤ b.f0) := by
      rw [List.pairwise_iff_getElem]
      intro i j hi hj hij
      have hj' : j < d'.size := by simpa using hj
      have := hsorted i j (Nat.zero_le _) hij (by simpa [hds] using hj')
      rw [getElem!_pos d' i (by omega), getElem!_pos d' j hj'] at this
      simp only [ltOf, cmpI_lt, decide_eq_false_iff_not] at this
      simp only [Array.getElem_toList]
      omega
    have hd : d'.toList = l0.mergeSort fun x y => decide (x.f0 ≤ y.f0) := sorted_one (·.f0) l0 _ _ hnd hpm (List.mergeSort_perm l0 _) hpw
      ((List.pairwise_mergeSort (fun a b c h1 h2 => by simp at *; omega) (fun a b => by simp; omega) l0).imp (fun h => by simpa using h))
    have hda : d' = (l0.mergeSort fun x y => decide (x.f0 ≤ y.f0)).toArray := by rw [← hd]
    obtain ⟨h1, h2, h3⟩ := R_putK encNote (fun _ => rfl) (by decide) (fun w base ok x => k25_mkM w base ok x) ho0 (ys := l0.mergeSort fun x y => decide (x.f0 ≤ y.f0)) (by simp) q os hB
    rw [hda]
    exact ⟨rfl, Kd.R_mono h1 (fun k hk => .inl hk), h2, h3.mono (fun k hk => by rw [hk]; exact hok)⟩
  · cases h

end Go.Proofs.Ytppojihmllmgnaa.F
