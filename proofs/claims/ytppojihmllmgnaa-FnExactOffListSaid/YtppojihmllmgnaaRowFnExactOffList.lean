/- The law FnExactOffList holds for every input. No condition. -/
import Derived.Test.YtppojihmllmgnaaRows
import Derived.Test.YtppojihmllmgnaaSeat
import Derived.Test.YtppojihmllmgnaaStFnExactOffList
import Derived.Test.YtppojihmllmgnaaPureFnExactOffList
import Derived.WalkKit
import Derived.ProofKit
import Derived.OpenShut
import Derived.ShutString
import Derived.ChangeOld
import Derived.Below
import Derived.SizedLaws
namespace Go.Proofs.Ytppojihmllmgnaa.fnExactOffList
open Go.ChangeShapes Go.WideShapes Go.ChangeAt Go.RowKit Go.Proofs.YtppojihmllmgnaaW.PrintWords Go.Proofs.YtppojihmllmgnaaW.PrintLast Go.Proofs.Ytppojihmllmgnaa.F
open Go.ChangeMaps (open_string shut_string)
set_option linter.unusedVariables false
theorem own : ownKnob Try.prog.godebug = none := by kernel_rfl
theorem laidOut : laidOutB Try.prog = true := by kernel_rfl
set_option maxRecDepth 100000 in
theorem lifted (os : Os) (started : os.Started) (H : Type) (enc : TypeId × Value → H) :
    ReturnsInHanded {} Try.checked os 11 .any (Rows.fnExactOffListSpec.pre6 enc Try.prog Try.f11 Rows.fnExactOffListRow.domain false) (Rows.fnExactOffListSpec.post enc Try.prog Try.f11 false true false false) := by
  refine returnsInHanded_of_change_sized (C := Try.checked) own started (by kernel_rfl) Try.func11
    (ChangeSpec.witness6 (enc := enc) (C := Try.checked) false ⟨#[], #[.slice none 0 0, .int .i64 0, .slice none 0 0], []⟩ 8 (by kernel_rfl) (by kernel_rfl) (by kernel_rfl) (by kernel_rfl)) ?_
  intro W base args ds gs before hval0 hW hcnd hsz0 _
  have hval : ∀ (j : Nat) t v, Try.f11.params[j]? = some t → args[j]? = some v → Value.okWide Try.prog W .any base t v := hval0
  have hW' := hW
  obtain ⟨p, q, hA0, hV, rfl, hfz, hnd⟩ := hW
  have hA : DataW.TrodAll enc Try.prog W 0 (fun _ => true) true Try.f11.params.toList args.toList ds p := hA0
  rw [Try.params11] at hA hval
  obtain ⟨v0, vs0, d0, ds0, p0, q0, hargs, rfl, rfl, h0, r0⟩ := trodAll_cons hA
  obtain ⟨v1, vs1, d1, ds1, p1, q1, rfl, rfl, rfl, h1, r1⟩ := trodAll_cons r0
  obtain ⟨v2, vs2, d2, ds2, p2, q2, rfl, rfl, rfl, h2, r2⟩ := trodAll_cons r1
  obtain ⟨rfl, rfl, rfl⟩ := trodAll_nil r2
  obtain rfl : args = #[v0, v1, v2] := by cases args; simp_all
  obtain ⟨rfl, rfl⟩ := trodVars_none hV
  obtain ⟨a0, len0, cap0, rfl⟩ := okWide_slice Try.underlying28 (hval 0 28 v0 rfl rfl)
  have kk0 := h0
  have lt0 : ∀ x ∈ p0, x.block < W.heap.size := by obtain ⟨m, hm⟩ := kk0; exact DataW.trod_lt m _ _ _ hm
  obtain ⟨l0, ⟨A0, c0, he0, hc0, hr0⟩, hw0⟩ : ∃ l, (Kd.slice 23 k23).K W l [.slice a0 len0 cap0] ∧ (l.length ≤ maxLen ∧ ∀ y ∈ l, W23 y) := by obtain ⟨fuel, hf⟩ := h0; exact op28.op hf
  obtain ⟨rfl, rfl, rfl⟩ : a0 = A0 ∧ len0 = l0.length ∧ cap0 = c0 := by simpa using he0
  obtain ⟨a1, rfl, rfl, rfl, w1⟩ := open_int Try.underlying3 (hval 1 3 v1 rfl rfl) h1
  obtain ⟨a2, len2, cap2, rfl⟩ := okWide_slice Try.underlying47 (hval 2 47 v2 rfl rfl)
  have kk2 := h2
  have lt2 : ∀ x ∈ p2, x.block < W.heap.size := by obtain ⟨m, hm⟩ := kk2; exact DataW.trod_lt m _ _ _ hm
  obtain ⟨l2, ⟨A2, c2, he2, hc2, hr2⟩, hw2⟩ : ∃ l, (Kd.slice 3 (Kd.int .i64)).K W l [.slice a2 len2 cap2] ∧ (l.length ≤ maxLen ∧ ∀ y ∈ l, (Lit.int .i64 y).wf = true) := by obtain ⟨fuel, hf⟩ := h2; exact op47.op hf
  obtain ⟨rfl, rfl, rfl⟩ : a2 = A2 ∧ len2 = l2.length ∧ cap2 = c2 := by simpa using he2
  clear hA0 hval0 hsz0
  obtain ⟨k, hp⟩ := Go.Proofs.Ytppojihmllmgnaa.Pure.FnExactOffList l0 a1 l2 hw0 w1 hw2
  refine (laws_FnExactOffList.calls k _ _ l0 a1 _ _ l2 true W hr0 hc0 hr2 hc2 hp).mono fun e W' hb => ?_
  obtain ⟨he, bel0⟩ := hb
  have bel : Below W.heap.size W W' := bel0
  subst he
  exact ⟨_, rfl, _, _, _, [], _, [], hW', trodAll_mk1 (shut_bool Try.underlying4 _), (trodAll_cons_mk (Below.trod laidOut (by kernel_rfl) (of_decide_eq_true (by kernel_rfl)) kk0 bel lt0) (trodAll_cons_mk (shut_int Try.underlying3 w1) (trodAll_cons_mk (Below.trod laidOut (by kernel_rfl) (of_decide_eq_true (by kernel_rfl)) kk2 bel lt2) trodAll_mk0))), rfl, bel.frame _, fun h => by cases h⟩
theorem calls_ : (Rows.fnExactOffListRow.inPlace == Try.prog.inPlace 11) = true := by kernel_rfl
theorem loose_ : (Rows.fnExactOffListRow.unfollowed == Try.prog.unfollowed 11) = true := by kernel_rfl
theorem again_ : (Rows.fnExactOffListRow.recurses == Try.prog.recurses 11) = true := by kernel_rfl
theorem named_ : (Rows.fnExactOffListRow.named == Try.prog.varsNamed 11) = true := by kernel_rfl
set_option maxRecDepth 100000 in
theorem joined : joinedFacts Try.pinned.checked.prog 11 Try.f11 Rows.fnExactOffListSpec Rows.fnExactOffListRow = true := by
  unfold joinedFacts
  repeat' with_reducible refine Seat.and2 ?_ ?_
  all_goals first | with_reducible exact Seat.enter | with_reducible refine Seat.lifts _ ?_ | with_reducible refine Seat.make _ ?_ | with_reducible exact calls_ | with_reducible exact loose_ | with_reducible exact again_ | with_reducible exact named_ | skip
  all_goals first | with_reducible rfl | kernel_rfl
theorem over : Rows.fnExactOffListRow.holds Try.pinned (OpenSpec.ofChange Rows.fnExactOffListSpec) :=
  OpenClaim.holds_of_wide 11 Try.f11 rfl rfl rfl rfl rfl rfl rfl ⟨rfl, rfl, rfl, rfl, rfl⟩ rfl rfl rfl rfl rfl (by kernel_rfl) Try.func11 joined
    (of_decide_eq_true (by kernel_rfl)) (by unfold Func.isWrapper; first | (rw [if_pos (by decide +kernel)]; kernel_rfl) | (rw [if_neg (by decide +kernel)]; exact ⟨rfl, rfl⟩))
    (fun os started H enc _ => lifted os started H enc)
theorem proved : Rows.FnExactOffListSaid := over
#print axioms proved
end Go.Proofs.Ytppojihmllmgnaa.fnExactOffList
namespace Go.Proofs.Ytppojihmllmgnaa
/-- The row, under a short name, for the claim. -/
theorem fnExactOffList_holds : Rows.FnExactOffListSaid := fnExactOffList.proved
end Go.Proofs.Ytppojihmllmgnaa
