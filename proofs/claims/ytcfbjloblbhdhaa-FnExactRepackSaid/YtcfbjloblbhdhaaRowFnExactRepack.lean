/- The law FnExactRepack holds for every input. No condition. -/
import Derived.Test.YtcfbjloblbhdhaaRows
import Derived.Test.YtcfbjloblbhdhaaSeat
import Derived.Test.YtcfbjloblbhdhaaStFnExactRepack
import Derived.Test.YtcfbjloblbhdhaaPureFnExactRepack
import Derived.Test.YtcfbjloblbhdhaaKFnExactRepack
import Derived.Test.YtcfbjloblbhdhaaKindsFnExactRepack
import Derived.WalkKit
import Derived.ProofKit
import Derived.OpenShut
import Derived.ShutString
import Derived.ChangeOld
import Derived.Below
import Derived.SizedLaws
import Derived.Carry
namespace Go.Proofs.Ytcfbjloblbhdhaa.fnExactRepack
open Go.ChangeShapes Go.WideShapes Go.ChangeAt Go.RowKit Go.Proofs.Ytcfbjloblbhdhaa.Eng
open Go.ChangeMaps (open_string shut_string)
set_option linter.unusedVariables false
theorem own : ownKnob Try.prog.godebug = none := by kernel_rfl
theorem laidOut : laidOutB Try.prog = true := by kernel_rfl
set_option maxRecDepth 100000 in
theorem lifted (os : Os) (started : os.Started) (H : Type) (enc : TypeId × Value → H) :
    ReturnsInHanded {} Try.checked os 5 .any (Rows.fnExactRepackSpec.pre6 enc Try.prog Try.f5 Rows.fnExactRepackRow.domain false) (Rows.fnExactRepackSpec.post enc Try.prog Try.f5 false true false false) := by
  refine returnsInHanded_of_change_sized (C := Try.checked) own started (by kernel_rfl) Try.func5
    (ChangeSpec.witness6 (enc := enc) (C := Try.checked) false ⟨#[], #[.agg #[.int .i64 0, .int .i64 0], .slice none 0 0], []⟩ 8 (by kernel_rfl) (by kernel_rfl) (by kernel_rfl) (by kernel_rfl)) ?_
  intro W base args ds gs before hval0 hW hcnd hsz0 _
  have hval : ∀ (j : Nat) t v, Try.f5.params[j]? = some t → args[j]? = some v → Value.okWide Try.prog W .any base t v := hval0
  have hW' := hW
  obtain ⟨p, q, hA0, hV, rfl, hfz, hnd⟩ := hW
  have hA : DataW.TrodAll enc Try.prog W 0 (fun _ => true) true Try.f5.params.toList args.toList ds p := hA0
  rw [Try.params5] at hA hval
  obtain ⟨v0, vs0, d0, ds0, p0, q0, hargs, rfl, rfl, h0, r0⟩ := trodAll_cons hA
  obtain ⟨v1, vs1, d1, ds1, p1, q1, rfl, rfl, rfl, h1, r1⟩ := trodAll_cons r0
  obtain ⟨rfl, rfl, rfl⟩ := trodAll_nil r1
  obtain rfl : args = #[v0, v1] := by cases args; simp_all
  obtain ⟨rfl, rfl⟩ := trodVars_none hV
  obtain ⟨s0, rfl, hs0⟩ := okWide_struct Try.underlying42 (hval 0 42 v0 rfl rfl)
  have kk0 := h0
  have lt0 : ∀ x ∈ p0, x.block < W.heap.size := by obtain ⟨m, hm⟩ := kk0; exact DataW.trod_lt m _ _ _ hm
  obtain ⟨x0, hr0, hw0⟩ : ∃ x : K41.den, readC (at_ W) K41 x s0.toList ∧ Wf K41 x := by obtain ⟨fuel, hf⟩ := h0; exact op42.op hf
  obtain ⟨a1, len1, cap1, rfl⟩ := okWide_slice Try.underlying43 (hval 1 43 v1 rfl rfl)
  have kk1 := h1
  have lt1 : ∀ x ∈ p1, x.block < W.heap.size := by obtain ⟨m, hm⟩ := kk1; exact DataW.trod_lt m _ _ _ hm
  obtain ⟨x1, hr1, hw1⟩ : ∃ x : K43.den, readC (at_ W) K43 x [.slice a1 len1 cap1] ∧ Wf K43 x := by obtain ⟨fuel, hf⟩ := h1; exact op43.op hf
  clear hA0 hval0 hsz0
  obtain ⟨k, hp⟩ := Go.Proofs.Ytcfbjloblbhdhaa.Pure.FnExactRepack x0 x1 hw0 hw1
  have hc : Calls Try.prog 5 #[.agg s0, .slice a1 len1 cap1] W (fun e w' => e = .returned (.bool true) ∧ Below W.heap.size W w') := law_end (vals := [.agg s0, .slice a1 len1 cap1]) laws_FnExactRepack.ok (x0, x1.1, ()) (lent0 rfl) hp ⟨Eng.one_struct rfl hr0 _, Eng.one_cell rfl hr1 _, trivial⟩
  refine hc.mono fun e W' hb => ?_
  obtain ⟨he, bel⟩ := hb
  subst he
  exact ⟨_, rfl, _, _, _, [], _, [], hW', trodAll_mk1 (shut_bool Try.underlying4 _), (trodAll_cons_mk (Below.trod laidOut (by kernel_rfl) (of_decide_eq_true (by kernel_rfl)) kk0 bel lt0) (trodAll_cons_mk (Below.trod laidOut (by kernel_rfl) (of_decide_eq_true (by kernel_rfl)) kk1 bel lt1) trodAll_mk0)), rfl, bel.frame _, fun h => by cases h⟩
theorem calls_ : (Rows.fnExactRepackRow.inPlace == Try.prog.inPlace 5) = true := by kernel_rfl
theorem loose_ : (Rows.fnExactRepackRow.unfollowed == Try.prog.unfollowed 5) = true := by kernel_rfl
theorem again_ : (Rows.fnExactRepackRow.recurses == Try.prog.recurses 5) = true := by kernel_rfl
theorem named_ : (Rows.fnExactRepackRow.named == Try.prog.varsNamed 5) = true := by kernel_rfl
set_option maxRecDepth 100000 in
theorem joined : joinedFacts Try.pinned.checked.prog 5 Try.f5 Rows.fnExactRepackSpec Rows.fnExactRepackRow = true := by
  unfold joinedFacts
  repeat' with_reducible refine Seat.and2 ?_ ?_
  all_goals first | with_reducible exact Seat.enter | with_reducible refine Seat.lifts _ ?_ | with_reducible refine Seat.make _ ?_ | with_reducible exact calls_ | with_reducible exact loose_ | with_reducible exact again_ | with_reducible exact named_ | skip
  all_goals first | with_reducible rfl | kernel_rfl
theorem over : Rows.fnExactRepackRow.holds Try.pinned (OpenSpec.ofChange Rows.fnExactRepackSpec) :=
  OpenClaim.holds_of_wide 5 Try.f5 rfl rfl rfl rfl rfl rfl rfl ⟨rfl, rfl, rfl, rfl, rfl⟩ rfl rfl rfl rfl rfl (by kernel_rfl) Try.func5 joined
    (of_decide_eq_true (by kernel_rfl)) (by unfold Func.isWrapper; first | (rw [if_pos (by decide +kernel)]; kernel_rfl) | (rw [if_neg (by decide +kernel)]; exact ⟨rfl, rfl⟩))
    (fun os started H enc _ => lifted os started H enc)
theorem proved : Rows.FnExactRepackSaid := over
#print axioms proved
end Go.Proofs.Ytcfbjloblbhdhaa.fnExactRepack
namespace Go.Proofs.Ytcfbjloblbhdhaa
/-- The row, under a short name, for the claim. -/
theorem fnExactRepack_holds : Rows.FnExactRepackSaid := fnExactRepack.proved
end Go.Proofs.Ytcfbjloblbhdhaa
