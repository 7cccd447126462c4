/- slices.SortFunc at notes: its contract at this program. No condition. -/
import Derived.Test.YtpmjopbgccajgaaGreatEngSortN
import Derived.Test.YtpmjopbgccajgaaGreatShelf
import Derived.Below
import Derived.Deep.Draws
import Derived.Tactics
import Derived.WalkKit
import Derived.KernelRfl
import Derived.Deep.QuietTactic
import Derived.Lib.ConvBytes
namespace Go.Proofs.YtpmjopbgccajgaaGreat.Eng
open Go.RowKit
set_option linter.unusedVariables false
set_option linter.unusedSimpArgs false
structure Aside0 (p : Prop) : Prop where mk :: (out : p)
def cmpI (x y : Int) : Int := if x < y then -1 else if x > y then 1 else 0
theorem cmpI_lt (x y : Int) : decide (cmpI x y < 0) = decide (x < y) := by
  refine decide_eq_decide.2 ?_
  unfold cmpI
  split
  · rename_i h; exact ⟨fun _ => h, fun _ => by omega⟩
  · rename_i h
    split
    · exact ⟨fun h' => by omega, fun h' => absurd h' h⟩
    · exact ⟨fun h' => by omega, fun h' => absurd h' h⟩
theorem enters_n {P : Program} {f : FuncId} {fn : Func} (hf : P.funcs[f]? = some fn) (hname : (fn.name == "runtime.NumGoroutine") = false) (hb : fn.body.isSome = true) (args : Array Value) (w : World) : (callFunc f args).run P w = .ok (.enter f args) w := by
  have h1 : fn.name ≠ "runtime.NumGoroutine" := by simpa using hname
  obtain ⟨c, hc⟩ := Option.isSome_iff_exists.1 hb
  simp [callFunc, hf, h1, hc]
theorem isNaN_drawn (a : Int) (w : World) : Calls Tryz.prog 170 #[.int .i64 a] w fun e w' => e = .returned (.bool false) ∧ ∃ n, w' = w.drewN n := by
  have h : (a != a) = false := by simp
  go_enter Tryz.func170, Tryz.ntmps170
  go_wp2
  go_ret
  refine ⟨by simp, ?_⟩
  first | exact ⟨0, rfl⟩ | exact ⟨1, rfl⟩ | exact ⟨_, rfl⟩
theorem Compare_drawn (a b : Int) (w : World) : Calls Tryz.prog 65 #[.int .i64 a, .int .i64 b] w fun e w' => e = .returned (.int .i64 (cmpI a b)) ∧ ∃ n, w' = w.drewN n := by
  have ha := Aside0.mk (isNaN_drawn a w)
  have hb := Aside0.mk (fun w' : World => isNaN_drawn b w')
  unfold cmpI
  by_cases h1 : a < b
  · have d1 : decide (a < b) = true := decide_eq_true h1
    rw [if_pos h1]
    clear h1
    go_enter Tryz.func65, Tryz.ntmps65
    go_wp2_with fail
    refine ha.out.mono ?_
    rintro e w' ⟨rfl, n1, rfl⟩
    go_wp2_with fail
    refine (hb.out _).mono ?_
    rintro e w' ⟨rfl, n2, rfl⟩
    go_wp2
    go_ret
    exact ⟨rfl, ⟨_, rfl⟩⟩
  · have d1 : decide (a < b) = false := decide_eq_false h1
    rw [if_neg h1]
    by_cases h2 : a > b
    · have d2 : decide (a > b) = true := decide_eq_true h2
      have d3 : decide (b < a) = true := decide_eq_true h2
      rw [if_pos h2]
      clear h1 h2
      go_enter Tryz.func65, Tryz.ntmps65
      go_wp2_with fail
      refine ha.out.mono ?_
      rintro e w' ⟨rfl, n1, rfl⟩
      go_wp2_with fail
      refine (hb.out _).mono ?_
      rintro e w' ⟨rfl, n2, rfl⟩
      go_wp2
      go_ret
      exact ⟨rfl, ⟨_, rfl⟩⟩
    · have d2 : decide (a > b) = false := decide_eq_false h2
      have d3 : decide (b < a) = false := decide_eq_false h2
      rw [if_neg h2]
      clear h1 h2
      go_enter Tryz.func65, Tryz.ntmps65
      go_wp2_with fail
      refine ha.out.mono ?_
      rintro e w' ⟨rfl, n1, rfl⟩
      go_wp2_with fail
      refine (hb.out _).mono ?_
      rintro e w' ⟨rfl, n2, rfl⟩
      go_wp2
      go_ret
      exact ⟨rfl, ⟨_, rfl⟩⟩
theorem noteCmp_lays (W : World) (x y : NtT) :
    Calls Tryz.prog 245 (#[Value.agg (encN x).toArray, Value.agg (encN y).toArray] ++ #[]) W fun e w' => e = .returned (.int .i64 (cmpI x.1 y.1)) ∧ ∃ q os', w' = Go.Sort.grow (W.drewN q) os' := by
  obtain ⟨x0, x1, x2, x3, x4, _⟩ := x
  obtain ⟨y0, y1, y2, y3, y4, _⟩ := y
  have hc := Aside0.mk (fun W' : World => Compare_drawn x0 y0 W')
  show Calls Tryz.prog 245 #[.agg #[.int .i64 x0, .int .i64 x1, .int .i64 x2, .int .i64 x3, .int .i64 x4], .agg #[.int .i64 y0, .int .i64 y1, .int .i64 y2, .int .i64 y3, .int .i64 y4]] W fun e w' => e = .returned (.int .i64 (cmpI x0 y0)) ∧ ∃ q os', w' = Go.Sort.grow (W.drewN q) os'
  generalize cmpI x0 y0 = q at hc
  go_enter Tryz.func245, Tryz.ntmps245
  go_wp2_with fail
  refine (hc.out _).mono ?_
  rintro e w' ⟨rfl, n1, rfl⟩
  go_wp2
  go_ret
  refine ⟨rfl, n1, #[.cells #[.int .i64 x0, .int .i64 x1, .int .i64 x2, .int .i64 x3, .int .i64 x4] 49, .cells #[.int .i64 y0, .int .i64 y1, .int .i64 y2, .int .i64 y3, .int .i64 y4] 49], ?_⟩
  rw [Go.Sort.alloc_eq_grow, Go.Sort.alloc_eq_grow, Go.Sort.grow_grow]
  rfl
set_option maxRecDepth 100000 in
theorem slices_SortFunc_impl_Note.ok : FnOk Tryz.prog 244 (sortNSig 245) := by
  refine sortN_ok ⟨Tryz.f244, Tryz.func244, by kernel_rfl, by kernel_rfl⟩ (fun blk off cap zs w hH hlt hsz => ?_)
  have hswo : Go.Sort.SWO (ltOf (fun x y : NtT => cmpI x.1 y.1)) := by
    refine ⟨fun x => ?_, fun x y z h1 h2 => ?_, fun x y z h1 h2 => ?_⟩
    · simp only [ltOf, cmpI_lt, decide_eq_false_iff_not]; omega
    · simp only [ltOf, cmpI_lt, decide_eq_true_eq] at h1 h2 ⊢; omega
    · simp only [ltOf, cmpI_lt, decide_eq_false_iff_not] at h1 h2 ⊢; omega
  have hcall := AnyQ.slices_SortFunc Tryz.l244 5 (fun _ => rfl) (fun _ => rfl) encN (fun _ => rfl) (fun x v hv => by
    simp only [encN, List.mem_cons, List.mem_nil_iff, or_false] at hv
    rcases hv with rfl | rfl | rfl | rfl | rfl <;> rfl) (fun x y : NtT => cmpI x.1 y.1) hswo 245 #[] blk off cap zs.toArray w (enters_n Tryz.func245 (by kernel_rfl) rfl)
    (fun m os dk _ x y => noteCmp_lays _ x y) hH hlt (by simp; omega)
  have hcall2 : Calls Tryz.prog 244 #[Value.slice (some ⟨blk, off, none⟩) zs.length cap, .func (.func 245) #[] #[]] w _ := hcall
  refine hcall2.mono ?_
  rintro e w' ⟨rfl, d', q, os, hperm, hsorted, rfl⟩
  obtain ⟨p1, p2, p3⟩ := hperm
  have hds : d'.size = zs.length := by simpa using p1
  have hpm : d'.toList.Perm zs := by
    have e1 : (d'.extract 0 zs.toArray.size).toList = d'.toList := by rw [show zs.toArray.size = d'.size by simp [hds]]; simp
    have e2 : (zs.toArray.extract 0 zs.toArray.size).toList = zs := by simp
    rw [e1, e2] at p3
    exact p3
  have hpw : d'.toList.Pairwise (fun a b => a.1 ≤ b.1) := by
    rw [List.pairwise_iff_getElem]
    intro i j hi hj hij
    have hj' : j < d'.size := by simpa using hj
    have := hsorted i j (Nat.zero_le _) hij (by simpa [hds] using hj')
    rw [getElem!_pos d' i (by omega), getElem!_pos d' j hj'] at this
    simp only [ltOf, cmpI_lt, decide_eq_false_iff_not] at this
    simp only [Array.getElem_toList]
    omega
  exact ⟨rfl, d'.toList, q, os, hpm, hpw, by simp⟩
end Go.Proofs.YtpmjopbgccajgaaGreat.Eng
