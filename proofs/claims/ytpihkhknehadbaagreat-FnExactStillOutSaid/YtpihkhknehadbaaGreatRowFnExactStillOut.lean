/- The law FnExactStillOut holds for every input. No condition. -/
import Derived.Test.YtpihkhknehadbaaGreatRows
import Derived.Test.YtpihkhknehadbaaGreatSeat
import Derived.Test.YtpihkhknehadbaaGreatStFnExactStillOut
import Derived.Test.YtpihkhknehadbaaGreatPureFnExactStillOut
import Derived.Test.YtpihkhknehadbaaGreatKFnExactStillOut
import Derived.Test.YtpihkhknehadbaaGreatKinds
import Derived.WalkKit
import Derived.ProofKit
import Derived.OpenShut
import Derived.ShutString
import Derived.ChangeOld
import Derived.Below
import Derived.SizedLaws
import Derived.Carry
namespace Go.Proofs.YtpihkhknehadbaaGreat.fnExactStillOut
open Go.ChangeShapes Go.WideShapes Go.ChangeAt Go.RowKit Go.Proofs.YtpihkhknehadbaaGreat.Eng
open Go.ChangeMaps (open_string shut_string)
set_option linter.unusedVariables false
theorem own : ownKnob Tryz.prog.godebug = none := by kernel_rfl
theorem laidOut : laidOutB Tryz.prog = true := by kernel_rfl
set_option maxRecDepth 100000 in
theorem lifted (os : Os) (started : os.Started) (H : Type) (enc : TypeId × Value → H) :
    ReturnsInHanded {} Tryz.checked os 6 .any (Rows.fnExactStillOutSpec.pre6 enc Tryz.prog Tryz.f6 Rows.fnExactStillOutRow.domain false) (Rows.fnExactStillOutSpec.post enc Tryz.prog Tryz.f6 false true false false) := by
  refine returnsInHanded_of_change_sized (C := Tryz.checked) own started (by kernel_rfl) Tryz.func6
    (ChangeSpec.witness6 (enc := enc) (C := Tryz.checked) false ⟨#[], #[.agg #[.int .i64 0, .slice none 0 0, .int .i64 0, .int .i64 0, .int .i64 0, .int .i64 0, .bool false, .slice none 0 0, .slice none 0 0, .int .i64 0, .slice none 0 0, .slice none 0 0, .int .i64 0, .slice none 0 0, .slice none 0 0, .slice none 0 0, .slice none 0 0], .int .i64 0], []⟩ 8 (by kernel_rfl) (by kernel_rfl) (by kernel_rfl) (by kernel_rfl)) ?_
  intro W base args ds gs before hval0 hW hcnd hsz0 _
  have hval : ∀ (j : Nat) t v, Tryz.f6.params[j]? = some t → args[j]? = some v → Value.okWide Tryz.prog W .any base t v := hval0
  have hW' := hW
  obtain ⟨p, q, hA0, hV, rfl, hfz, hnd⟩ := hW
  have hA : DataW.TrodAll enc Tryz.prog W 0 (fun _ => true) true Tryz.f6.params.toList args.toList ds p := hA0
  rw [Tryz.params6] at hA hval
  obtain ⟨v0, vs0, d0, ds0, p0, q0, hargs, rfl, rfl, h0, r0⟩ := trodAll_cons hA
  obtain ⟨v1, vs1, d1, ds1, p1, q1, rfl, rfl, rfl, h1, r1⟩ := trodAll_cons r0
  obtain ⟨rfl, rfl, rfl⟩ := trodAll_nil r1
  obtain rfl : args = #[v0, v1] := by cases args; simp_all
  obtain ⟨rfl, rfl⟩ := trodVars_none hV
  obtain ⟨s0, rfl, hs0⟩ := okWide_struct Tryz.underlying41 (hval 0 41 v0 rfl rfl)
  have kk0 := h0
  have lt0 : ∀ x ∈ p0, x.block < W.heap.size := by obtain ⟨m, hm⟩ := kk0; exact DataW.trod_lt m _ _ _ hm
  obtain ⟨x0, hr0, hw0⟩ : ∃ x : K40.den, readC (at_ W) K40 x s0.toList ∧ Wf K40 x := by obtain ⟨fuel, hf⟩ := h0; exact op41.op hf
  obtain ⟨a1, rfl, rfl, rfl, w1⟩ := open_int Tryz.underlying3 (hval 1 3 v1 rfl rfl) h1
  have hw1 : Wf K2 (a1, ()) := ⟨w1, trivial⟩
  clear hA0 hval0 hsz0
  obtain ⟨k, hp⟩ := Go.Proofs.YtpihkhknehadbaaGreat.Pure.FnExactStillOut x0 (a1, ()) hw0 hw1
  have hc : Calls Tryz.prog 6 #[.agg s0, .int .i64 a1] W (fun e w' => e = .returned (.bool true) ∧ Below W.heap.size W w') := law_end (vals := [.agg s0, .int .i64 a1]) laws_FnExactStillOut.ok (x0, a1, ()) (lent0 rfl) hp ⟨one_struct rfl hr0 _, rfl, trivial⟩
  refine hc.mono fun e W' hb => ?_
  obtain ⟨he, bel⟩ := hb
  subst he
  exact ⟨_, rfl, _, _, _, [], _, [], hW', trodAll_mk1 (shut_bool Tryz.underlying4 _), (trodAll_cons_mk (Below.trod laidOut (by kernel_rfl) (of_decide_eq_true (by kernel_rfl)) kk0 bel lt0) (trodAll_cons_mk (shut_int Tryz.underlying3 w1) trodAll_mk0)), rfl, bel.frame _, fun h => by cases h⟩
theorem calls_ : (Rows.fnExactStillOutRow.inPlace == Tryz.prog.inPlace 6) = true := by kernel_rfl
theorem loose_ : (Rows.fnExactStillOutRow.unfollowed == Tryz.prog.unfollowed 6) = true := by kernel_rfl
theorem again_ : (Rows.fnExactStillOutRow.recurses == Tryz.prog.recurses 6) = true := by kernel_rfl
theorem named_ : (Rows.fnExactStillOutRow.named == Tryz.prog.varsNamed 6) = true := by kernel_rfl
set_option maxRecDepth 100000 in
theorem joined : joinedFacts Tryz.pinned.checked.prog 6 Tryz.f6 Rows.fnExactStillOutSpec Rows.fnExactStillOutRow = true := by
  unfold joinedFacts
  repeat' with_reducible refine Seat.and2 ?_ ?_
  all_goals first | with_reducible exact Seat.enter | with_reducible refine Seat.lifts _ ?_ | with_reducible refine Seat.make _ ?_ | with_reducible exact calls_ | with_reducible exact loose_ | with_reducible exact again_ | with_reducible exact named_ | skip
  all_goals first | with_reducible rfl | kernel_rfl
theorem over : Rows.fnExactStillOutRow.holds Tryz.pinned (OpenSpec.ofChange Rows.fnExactStillOutSpec) :=
  OpenClaim.holds_of_wide 6 Tryz.f6 rfl rfl rfl rfl rfl rfl rfl ⟨rfl, rfl, rfl, rfl, rfl⟩ rfl rfl rfl rfl rfl (by kernel_rfl) Tryz.func6 joined
    (of_decide_eq_true (by kernel_rfl)) (by unfold Func.isWrapper; first | (rw [if_pos (by decide +kernel)]; kernel_rfl) | (rw [if_neg (by decide +kernel)]; exact ⟨rfl, rfl⟩))
    (fun os started H enc _ => lifted os started H enc)
theorem proved : Rows.FnExactStillOutSaid := over
#print axioms proved
end Go.Proofs.YtpihkhknehadbaaGreat.fnExactStillOut
namespace Go.Proofs.YtpihkhknehadbaaGreat
/-- The row, under a short name, for the claim. -/
theorem fnExactStillOut_holds : Rows.FnExactStillOutSaid := fnExactStillOut.proved
end Go.Proofs.YtpihkhknehadbaaGreat
