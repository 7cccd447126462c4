/- The law FnEveryPacking holds for every input. No condition. -/
import Derived.Test.YtnldmnlfocigaaaRows
import Derived.Test.YtnldmnlfocigaaaSeat
import Derived.Test.YtnldmnlfocigaaaStFnEveryPacking
import Derived.Test.YtnldmnlfocigaaaPureFnEveryPacking
import Derived.WalkKit
import Derived.ProofKit
import Derived.OpenShut
import Derived.ShutString
import Derived.ChangeOld
import Derived.Below
import Derived.SizedLaws
namespace Go.Proofs.Ytnldmnlfocigaaa.fnEveryPacking
open Go.ChangeShapes Go.WideShapes Go.ChangeAt Go.RowKit Go.Proofs.YtnldmnlfocigaaaW.PrintWords Go.Proofs.YtnldmnlfocigaaaW.PrintLast Go.Proofs.Ytnldmnlfocigaaa.F
open Go.ChangeMaps (open_string shut_string)
set_option linter.unusedVariables false
theorem own : ownKnob Try.prog.godebug = none := by kernel_rfl
theorem laidOut : laidOutB Try.prog = true := by kernel_rfl
set_option maxRecDepth 100000 in
theorem lifted (os : Os) (started : os.Started) (H : Type) (enc : TypeId × Value → H) :
    ReturnsInHanded {} Try.checked os 10 .any (Rows.fnEveryPackingSpec.pre6 enc Try.prog Try.f10 Rows.fnEveryPackingRow.domain false) (Rows.fnEveryPackingSpec.post enc Try.prog Try.f10 false true false false) := by
  refine returnsInHanded_of_change_sized (C := Try.checked) own started (by kernel_rfl) Try.func10
    (ChangeSpec.witness6 (enc := enc) (C := Try.checked) false ⟨#[], #[.agg #[.int .i64 0, .int .i64 0], .slice none 0 0, .slice none 0 0], []⟩ 8 (by kernel_rfl) (by kernel_rfl) (by kernel_rfl) (by kernel_rfl)) ?_
  intro W base args ds gs before hval0 hW hcnd hsz0 _
  have hval : ∀ (j : Nat) t v, Try.f10.params[j]? = some t → args[j]? = some v → Value.okWide Try.prog W .any base t v := hval0
  have hW' := hW
  obtain ⟨p, q, hA0, hV, rfl, hfz, hnd⟩ := hW
  have hA : DataW.TrodAll enc Try.prog W 0 (fun _ => true) true Try.f10.params.toList args.toList ds p := hA0
  rw [Try.params10] at hA hval
  obtain ⟨v0, vs0, d0, ds0, p0, q0, hargs, rfl, rfl, h0, r0⟩ := trodAll_cons hA
  obtain ⟨v1, vs1, d1, ds1, p1, q1, rfl, rfl, rfl, h1, r1⟩ := trodAll_cons r0
  obtain ⟨v2, vs2, d2, ds2, p2, q2, rfl, rfl, rfl, h2, r2⟩ := trodAll_cons r1
  obtain ⟨rfl, rfl, rfl⟩ := trodAll_nil r2
  obtain rfl : args = #[v0, v1, v2] := by cases args; simp_all
  obtain ⟨rfl, rfl⟩ := trodVars_none hV
  obtain ⟨s0, rfl, hs0⟩ := okWide_struct Try.underlying49 (hval 0 49 v0 rfl rfl)
  have kk0 := h0
  have lt0 : ∀ x ∈ p0, x.block < W.heap.size := by obtain ⟨m, hm⟩ := kk0; exact DataW.trod_lt m _ _ _ hm
  obtain ⟨x0, hK0, hw0⟩ : ∃ x, k49.K W x s0.toList ∧ W49 x := by obtain ⟨fuel, hf⟩ := h0; exact op49.op hf
  obtain he0 := k49_open hK0
  obtain rfl : s0 = #[.int .i64 x0.f0, .int .i64 x0.f1] := by cases s0; simp only at he0; rw [he0]
  obtain ⟨a1, len1, cap1, rfl⟩ := okWide_slice Try.underlying42 (hval 1 42 v1 rfl rfl)
  have kk1 := h1
  have lt1 : ∀ x ∈ p1, x.block < W.heap.size := by obtain ⟨m, hm⟩ := kk1; exact DataW.trod_lt m _ _ _ hm
  obtain ⟨l1, ⟨A1, c1, he1, hc1, hr1⟩, hw1⟩ : ∃ l, (Kd.slice 80 k80).K W l [.slice a1 len1 cap1] ∧ (l.length ≤ maxLen ∧ ∀ y ∈ l, W80 y) := by obtain ⟨fuel, hf⟩ := h1; exact op42.op hf
  obtain ⟨rfl, rfl, rfl⟩ : a1 = A1 ∧ len1 = l1.length ∧ cap1 = c1 := by simpa using he1
  obtain ⟨a2, len2, cap2, rfl⟩ := okWide_slice Try.underlying52 (hval 2 52 v2 rfl rfl)
  have kk2 := h2
  have lt2 : ∀ x ∈ p2, x.block < W.heap.size := by obtain ⟨m, hm⟩ := kk2; exact DataW.trod_lt m _ _ _ hm
  obtain ⟨l2, ⟨A2, c2, he2, hc2, hr2⟩, hw2⟩ : ∃ l, (Kd.slice 62 k62).K W l [.slice a2 len2 cap2] ∧ (l.length ≤ maxLen ∧ ∀ y ∈ l, W62 y) := by obtain ⟨fuel, hf⟩ := h2; exact op52.op hf
  obtain ⟨rfl, rfl, rfl⟩ : a2 = A2 ∧ len2 = l2.length ∧ cap2 = c2 := by simpa using he2
  clear hA0 hval0 hsz0
  obtain ⟨k, hp⟩ := Go.Proofs.Ytnldmnlfocigaaa.Pure.FnEveryPacking x0 l1 l2 hw0 hw1 hw2
  refine (laws_FnEveryPacking.calls k _ _ _ _ l1 _ _ l2 true W hr1 hc1 hr2 hc2 hp).mono fun e W' hb => ?_
  obtain ⟨he, bel0⟩ := hb
  have bel : Below W.heap.size W W' := bel0
  subst he
  exact ⟨_, rfl, _, _, _, [], _, [], hW', trodAll_mk1 (shut_bool Try.underlying4 _), (trodAll_cons_mk (Below.trod laidOut (by kernel_rfl) (of_decide_eq_true (by kernel_rfl)) kk0 bel lt0) (trodAll_cons_mk (Below.trod laidOut (by kernel_rfl) (of_decide_eq_true (by kernel_rfl)) kk1 bel lt1) (trodAll_cons_mk (Below.trod laidOut (by kernel_rfl) (of_decide_eq_true (by kernel_rfl)) kk2 bel lt2) trodAll_mk0))), rfl, bel.frame _, fun h => by cases h⟩
theorem calls_ : (Rows.fnEveryPackingRow.inPlace == Try.prog.inPlace 10) = true := by kernel_rfl
theorem loose_ : (Rows.fnEveryPackingRow.unfollowed == Try.prog.unfollowed 10) = true := by kernel_rfl
theorem again_ : (Rows.fnEveryPackingRow.recurses == Try.prog.recurses 10) = true := by kernel_rfl
theorem named_ : (Rows.fnEveryPackingRow.named == Try.prog.varsNamed 10) = true := by kernel_rfl
set_option maxRecDepth 100000 in
theorem joined : joinedFacts Try.pinned.checked.prog 10 Try.f10 Rows.fnEveryPackingSpec Rows.fnEveryPackingRow = true := by
  unfold joinedFacts
  repeat' with_reducible refine Seat.and2 ?_ ?_
  all_goals first | with_reducible exact Seat.enter | with_reducible refine Seat.lifts _ ?_ | with_reducible refine Seat.make _ ?_ | with_reducible exact calls_ | with_reducible exact loose_ | with_reducible exact again_ | with_reducible exact named_ | skip
  all_goals first | with_reducible rfl | kernel_rfl
theorem over : Rows.fnEveryPackingRow.holds Try.pinned (OpenSpec.ofChange Rows.fnEveryPackingSpec) :=
  OpenClaim.holds_of_wide 10 Try.f10 rfl rfl rfl rfl rfl rfl rfl ⟨rfl, rfl, rfl, rfl, rfl⟩ rfl rfl rfl rfl rfl (by kernel_rfl) Try.func10 joined
    (of_decide_eq_true (by kernel_rfl)) (by unfold Func.isWrapper; first | (rw [if_pos (by decide +kernel)]; kernel_rfl) | (rw [if_neg (by decide +kernel)]; exact ⟨rfl, rfl⟩))
    (fun os started H enc _ => lifted os started H enc)
theorem proved : Rows.FnEveryPackingSaid := over
#print axioms proved
end Go.Proofs.Ytnldmnlfocigaaa.fnEveryPacking
namespace Go.Proofs.Ytnldmnlfocigaaa
/-- The row, under a short name, for the claim. -/
theorem fnEveryPacking_holds : Rows.FnEveryPackingSaid := fnEveryPacking.proved
end Go.Proofs.Ytnldmnlfocigaaa
