/- The law FnPacked holds for every input. No condition. -/
import Derived.Test.YtcfbjloblbhdhaaRows
import Derived.Test.YtcfbjloblbhdhaaSeat
import Derived.Test.YtcfbjloblbhdhaaStFnPacked
import Derived.Test.YtcfbjloblbhdhaaPureFnPacked
import Derived.Test.YtcfbjloblbhdhaaKFnPacked
import Derived.Test.YtcfbjloblbhdhaaKindsFnPacked
import Derived.WalkKit
import Derived.ProofKit
import Derived.OpenShut
import Derived.ShutString
import Derived.ChangeOld
import Derived.Below
import Derived.SizedLaws
import Derived.Carry
namespace Go.Proofs.Ytcfbjloblbhdhaa.fnPacked
open Go.ChangeShapes Go.WideShapes Go.ChangeAt Go.RowKit Go.Proofs.Ytcfbjloblbhdhaa.Eng
open Go.ChangeMaps (open_string shut_string)
set_option linter.unusedVariables false
theorem own : ownKnob Try.prog.godebug = none := by kernel_rfl
theorem laidOut : laidOutB Try.prog = true := by kernel_rfl
set_option maxRecDepth 100000 in
theorem lifted (os : Os) (started : os.Started) (H : Type) (enc : TypeId × Value → H) :
    ReturnsInHanded {} Try.checked os 6 .any (Rows.fnPackedSpec.pre6 enc Try.prog Try.f6 Rows.fnPackedRow.domain false) (Rows.fnPackedSpec.post enc Try.prog Try.f6 false true false false) := by
  refine returnsInHanded_of_change_sized (C := Try.checked) own started (by kernel_rfl) Try.func6
    (ChangeSpec.witness6 (enc := enc) (C := Try.checked) false ⟨#[], #[.slice none 0 0], []⟩ 8 (by kernel_rfl) (by kernel_rfl) (by kernel_rfl) (by kernel_rfl)) ?_
  intro W base args ds gs before hval0 hW hcnd hsz0 _
  have hval : ∀ (j : Nat) t v, Try.f6.params[j]? = some t → args[j]? = some v → Value.okWide Try.prog W .any base t v := hval0
  have hW' := hW
  obtain ⟨p, q, hA0, hV, rfl, hfz, hnd⟩ := hW
  have hA : DataW.TrodAll enc Try.prog W 0 (fun _ => true) true Try.f6.params.toList args.toList ds p := hA0
  rw [Try.params6] at hA hval
  obtain ⟨v0, vs0, d0, ds0, p0, q0, hargs, rfl, rfl, h0, r0⟩ := trodAll_cons hA
  obtain ⟨rfl, rfl, rfl⟩ := trodAll_nil r0
  obtain rfl : args = #[v0] := by cases args; simp_all
  obtain ⟨rfl, rfl⟩ := trodVars_none hV
  obtain ⟨a0, len0, cap0, rfl⟩ := okWide_slice Try.underlying22 (hval 0 22 v0 rfl rfl)
  have kk0 := h0
  have lt0 : ∀ x ∈ p0, x.block < W.heap.size := by obtain ⟨m, hm⟩ := kk0; exact DataW.trod_lt m _ _ _ hm
  obtain ⟨x0, hr0, hw0⟩ : ∃ x : K22.den, readC (at_ W) K22 x [.slice a0 len0 cap0] ∧ Wf K22 x := by obtain ⟨fuel, hf⟩ := h0; exact op22.op hf
  clear hA0 hval0 hsz0
  obtain ⟨k, hp⟩ := Go.Proofs.Ytcfbjloblbhdhaa.Pure.FnPacked x0 hw0
  have hc : Calls Try.prog 6 #[.slice a0 len0 cap0] W (fun e w' => e = .returned (.bool true) ∧ Below W.heap.size W w') := law_end (vals := [.slice a0 len0 cap0]) laws_FnPacked.ok (x0.1, ()) (lent0 rfl) hp ⟨Eng.one_cell rfl hr0 _, trivial⟩
  refine hc.mono fun e W' hb => ?_
  obtain ⟨he, bel⟩ := hb
  subst he
  exact ⟨_, rfl, _, _, _, [], _, [], hW', trodAll_mk1 (shut_bool Try.underlying4 _), (trodAll_cons_mk (Below.trod laidOut (by kernel_rfl) (of_decide_eq_true (by kernel_rfl)) kk0 bel lt0) trodAll_mk0), rfl, bel.frame _, fun h => by cases h⟩
theorem calls_ : (Rows.fnPackedRow.inPlace == Try.prog.inPlace 6) = true := by kernel_rfl
theorem loose_ : (Rows.fnPackedRow.unfollowed == Try.prog.unfollowed 6) = true := by kernel_rfl
theorem again_ : (Rows.fnPackedRow.recurses == Try.prog.recurses 6) = true := by kernel_rfl
theorem named_ : (Rows.fnPackedRow.named == Try.prog.varsNamed 6) = true := by kernel_rfl
set_option maxRecDepth 100000 in
theorem joined : joinedFacts Try.pinned.checked.prog 6 Try.f6 Rows.fnPackedSpec Rows.fnPackedRow = true := by
  unfold joinedFacts
  repeat' with_reducible refine Seat.and2 ?_ ?_
  all_goals first | with_reducible exact Seat.enter | with_reducible refine Seat.lifts _ ?_ | with_reducible refine Seat.make _ ?_ | with_reducible exact calls_ | with_reducible exact loose_ | with_reducible exact again_ | with_reducible exact named_ | skip
  all_goals first | with_reducible rfl | kernel_rfl
theorem over : Rows.fnPackedRow.holds Try.pinned (OpenSpec.ofChange Rows.fnPackedSpec) :=
  OpenClaim.holds_of_wide 6 Try.f6 rfl rfl rfl rfl rfl rfl rfl ⟨rfl, rfl, rfl, rfl, rfl⟩ rfl rfl rfl rfl rfl (by kernel_rfl) Try.func6 joined
    (of_decide_eq_true (by kernel_rfl)) (by unfold Func.isWrapper; first | (rw [if_pos (by decide +kernel)]; kernel_rfl) | (rw [if_neg (by decide +kernel)]; exact ⟨rfl, rfl⟩))
    (fun os started H enc _ => lifted os started H enc)
theorem proved : Rows.FnPackedSaid := over
#print axioms proved
end Go.Proofs.Ytcfbjloblbhdhaa.fnPacked
namespace Go.Proofs.Ytcfbjloblbhdhaa
/-- The row, under a short name, for the claim. -/
theorem fnPacked_holds : Rows.FnPackedSaid := fnPacked.proved
end Go.Proofs.Ytcfbjloblbhdhaa
