/- The law FnExactFirstFit holds for every input. No condition. -/
import Derived.Test.YtnldmnlfocigaaaRows
import Derived.Test.YtnldmnlfocigaaaSeat
import Derived.Test.YtnldmnlfocigaaaStFnExactFirstFit
import Derived.Test.YtnldmnlfocigaaaPureFnExactFirstFit
import Derived.WalkKit
import Derived.ProofKit
import Derived.OpenShut
import Derived.ShutString
import Derived.ChangeOld
import Derived.Below
import Derived.SizedLaws
namespace Go.Proofs.Ytnldmnlfocigaaa.fnExactFirstFit
open Go.ChangeShapes Go.WideShapes Go.ChangeAt Go.RowKit Go.Proofs.YtnldmnlfocigaaaW.PrintWords Go.Proofs.YtnldmnlfocigaaaW.PrintLast Go.Proofs.Ytnldmnlfocigaaa.F
open Go.ChangeMaps (open_string shut_string)
set_option linter.unusedVariables false
theorem own : ownKnob Try.prog.godebug = none := by kernel_rfl
theorem laidOut : laidOutB Try.prog = true := by kernel_rfl
set_option maxRecDepth 100000 in
theorem lifted (os : Os) (started : os.Started) (H : Type) (enc : TypeId × Value → H) :
    ReturnsInHanded {} Try.checked os 11 .any (Rows.fnExactFirstFitSpec.pre6 enc Try.prog Try.f11 Rows.fnExactFirstFitRow.domain false) (Rows.fnExactFirstFitSpec.post enc Try.prog Try.f11 false true false false) := by
  refine returnsInHanded_of_change_sized (C := Try.checked) own started (by kernel_rfl) Try.func11
    (ChangeSpec.witness6 (enc := enc) (C := Try.checked) false ⟨#[], #[.agg #[.int .i64 0, .int .i64 0], .slice none 0 0], []⟩ 8 (by kernel_rfl) (by kernel_rfl) (by kernel_rfl) (by kernel_rfl)) ?_
  intro W base args ds gs before hval0 hW hcnd hsz0 _
  have hval : ∀ (j : Nat) t v, Try.f11.params[j]? = some t → args[j]? = some v → Value.okWide Try.prog W .any base t v := hval0
  have hW' := hW
  obtain ⟨p, q, hA0, hV, rfl, hfz, hnd⟩ := hW
  have hA : DataW.TrodAll enc Try.prog W 0 (fun _ => true) true Try.f11.params.toList args.toList ds p := hA0
  rw [Try.params11] at hA hval
  obtain ⟨v0, vs0, d0, ds0, p0, q0, hargs, rfl, rfl, h0, r0⟩ := trodAll_cons hA
  obtain ⟨v1, vs1, d1, ds1, p1, q1, rfl, rfl, rfl, h1, r1⟩ := trodAll_cons r0
  obtain ⟨rfl, rfl, rfl⟩ := trodAll_nil r1
  obtain rfl : args = #[v0, v1] := by cases args; simp_all
  obtain ⟨rfl, rfl⟩ := trodVars_none hV
  obtain ⟨s0, rfl, hs0⟩ := okWide_struct Try.underlying47 (hval 0 47 v0 rfl rfl)
  have kk0 := h0
  have lt0 : ∀ x ∈ p0, x.block < W.heap.size := by obtain ⟨m, hm⟩ := kk0; exact DataW.trod_lt m _ _ _ hm
  obtain ⟨x0, hK0, hw0⟩ : ∃ x, k47.K W x s0.toList ∧ W47 x := by obtain ⟨fuel, hf⟩ := h0; exact op47.op hf
  obtain he0 := k47_open hK0
  obtain rfl : s0 = #[.int .i64 x0.f0, .int .i64 x0.f1] := by cases s0; simp only at he0; rw [he0]
  obtain ⟨a1, len1, cap1, rfl⟩ := okWide_slice Try.underlying39 (hval 1 39 v1 rfl rfl)
  have kk1 := h1
  have lt1 : ∀ x ∈ p1, x.block < W.heap.size := by obtain ⟨m, hm⟩ := kk1; exact DataW.trod_lt m _ _ _ hm
  obtain ⟨l1, ⟨A1, c1, he1, hc1, hr1⟩, hw1⟩ : ∃ l, (Kd.slice 82 k82).K W l [.slice a1 len1 cap1] ∧ (l.length ≤ maxLen ∧ ∀ y ∈ l, W82 y) := by obtain ⟨fuel, hf⟩ := h1; exact op39.op hf
  obtain ⟨rfl, rfl, rfl⟩ : a1 = A1 ∧ len1 = l1.length ∧ cap1 = c1 := by simpa using he1
  clear hA0 hval0 hsz0
  obtain ⟨k, hp⟩ := Go.Proofs.Ytnldmnlfocigaaa.Pure.FnExactFirstFit x0 l1 hw0 hw1
  refine (laws_FnExactFirstFit.calls k _ _ _ _ l1 true W hr1 hc1 hp).mono fun e W' hb => ?_
  obtain ⟨he, bel0⟩ := hb
  have bel : Below W.heap.size W W' := bel0
  subst he
  exact ⟨_, rfl, _, _, _, [], _, [], hW', trodAll_mk1 (shut_bool Try.underlying4 _), (trodAll_cons_mk (Below.trod laidOut (by kernel_rfl) (of_decide_eq_true (by kernel_rfl)) kk0 bel lt0) (trodAll_cons_mk (Below.trod laidOut (by kernel_rfl) (of_decide_eq_true (by kernel_rfl)) kk1 bel lt1) trodAll_mk0)), rfl, bel.frame _, fun h => by cases h⟩
theorem calls_ : (Rows.fnExactFirstFitRow.inPlace == Try.prog.inPlace 11) = true := by kernel_rfl
theorem loose_ : (Rows.fnExactFirstFitRow.unfollowed == Try.prog.unfollowed 11) = true := by kernel_rfl
theorem again_ : (Rows.fnExactFirstFitRow.recurses == Try.prog.recurses 11) = true := by kernel_rfl
theorem named_ : (Rows.fnExactFirstFitRow.named == Try.prog.varsNamed 11) = true := by kernel_rfl
set_option maxRecDepth 100000 in
theorem joined : joinedFacts Try.pinned.checked.prog 11 Try.f11 Rows.fnExactFirstFitSpec Rows.fnExactFirstFitRow = true := by
  unfold joinedFacts
  repeat' with_reducible refine Seat.and2 ?_ ?_
  all_goals first | with_reducible exact Seat.enter | with_reducible refine Seat.lifts _ ?_ | with_reducible refine Seat.make _ ?_ | with_reducible exact calls_ | with_reducible exact loose_ | with_reducible exact again_ | with_reducible exact named_ | skip
  all_goals first | with_reducible rfl | kernel_rfl
theorem over : Rows.fnExactFirstFitRow.holds Try.pinned (OpenSpec.ofChange Rows.fnExactFirstFitSpec) :=
  OpenClaim.holds_of_wide 11 Try.f11 rfl rfl rfl rfl rfl rfl rfl ⟨rfl, rfl, rfl, rfl, rfl⟩ rfl rfl rfl rfl rfl (by kernel_rfl) Try.func11 joined
    (of_decide_eq_true (by kernel_rfl)) (by unfold Func.isWrapper; first | (rw [if_pos (by decide +kernel)]; kernel_rfl) | (rw [if_neg (by decide +kernel)]; exact ⟨rfl, rfl⟩))
    (fun os started H enc _ => lifted os started H enc)
theorem proved : Rows.FnExactFirstFitSaid := over
#print axioms proved
end Go.Proofs.Ytnldmnlfocigaaa.fnExactFirstFit
namespace Go.Proofs.Ytnldmnlfocigaaa
/-- The row, under a short name, for the claim. -/
theorem fnExactFirstFit_holds : Rows.FnExactFirstFitSaid := fnExactFirstFit.proved
end Go.Proofs.Ytnldmnlfocigaaa
