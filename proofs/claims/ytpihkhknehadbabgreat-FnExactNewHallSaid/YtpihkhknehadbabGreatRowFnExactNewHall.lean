/- The law FnExactNewHall holds for every input. No condition. -/
import Derived.Test.YtpihkhknehadbabGreatRows
import Derived.Test.YtpihkhknehadbabGreatSeat
import Derived.Test.YtpihkhknehadbabGreatStFnExactNewHall
import Derived.Test.YtpihkhknehadbabGreatPureFnExactNewHall
import Derived.Test.YtpihkhknehadbabGreatKFnExactNewHall
import Derived.Test.YtpihkhknehadbabGreatKinds
import Derived.WalkKit
import Derived.ProofKit
import Derived.OpenShut
import Derived.ShutString
import Derived.ChangeOld
import Derived.Below
import Derived.SizedLaws
import Derived.Carry
namespace Go.Proofs.YtpihkhknehadbabGreat.fnExactNewHall
open Go.ChangeShapes Go.WideShapes Go.ChangeAt Go.RowKit Go.Proofs.YtpihkhknehadbabGreat.Eng
open Go.ChangeMaps (open_string shut_string)
set_option linter.unusedVariables false
theorem own : ownKnob Tryz.prog.godebug = none := by kernel_rfl
theorem laidOut : laidOutB Tryz.prog = true := by kernel_rfl
set_option maxRecDepth 100000 in
theorem lifted (os : Os) (started : os.Started) (H : Type) (enc : TypeId × Value → H) :
    ReturnsInHanded {} Tryz.checked os 3 .any (Rows.fnExactNewHallSpec.pre6 enc Tryz.prog Tryz.f3 Rows.fnExactNewHallRow.domain false) (Rows.fnExactNewHallSpec.post enc Tryz.prog Tryz.f3 false true false false) := by
  refine returnsInHanded_of_change_sized (C := Tryz.checked) own started (by kernel_rfl) Tryz.func3
    (ChangeSpec.witness6 (enc := enc) (C := Tryz.checked) false ⟨#[], #[.agg #[.slice none 0 0], .agg #[.int .i64 0, .int .i64 0], .agg #[.int .i64 0, .int .i64 0, .bool false, .slice none 0 0], .agg #[.slice none 0 0, .int .i64 0, .slice none 0 0, .slice none 0 0], .agg #[.int .i64 0, .slice none 0 0], .slice none 0 0], []⟩ 8 (by kernel_rfl) (by kernel_rfl) (by kernel_rfl) (by kernel_rfl)) ?_
  intro W base args ds gs before hval0 hW hcnd hsz0 _
  have hval : ∀ (j : Nat) t v, Tryz.f3.params[j]? = some t → args[j]? = some v → Value.okWide Tryz.prog W .any base t v := hval0
  have hW' := hW
  obtain ⟨p, q, hA0, hV, rfl, hfz, hnd⟩ := hW
  have hA : DataW.TrodAll enc Tryz.prog W 0 (fun _ => true) true Tryz.f3.params.toList args.toList ds p := hA0
  rw [Tryz.params3] at hA hval
  obtain ⟨v0, vs0, d0, ds0, p0, q0, hargs, rfl, rfl, h0, r0⟩ := trodAll_cons hA
  obtain ⟨v1, vs1, d1, ds1, p1, q1, rfl, rfl, rfl, h1, r1⟩ := trodAll_cons r0
  obtain ⟨v2, vs2, d2, ds2, p2, q2, rfl, rfl, rfl, h2, r2⟩ := trodAll_cons r1
  obtain ⟨v3, vs3, d3, ds3, p3, q3, rfl, rfl, rfl, h3, r3⟩ := trodAll_cons r2
  obtain ⟨v4, vs4, d4, ds4, p4, q4, rfl, rfl, rfl, h4, r4⟩ := trodAll_cons r3
  obtain ⟨v5, vs5, d5, ds5, p5, q5, rfl, rfl, rfl, h5, r5⟩ := trodAll_cons r4
  obtain ⟨rfl, rfl, rfl⟩ := trodAll_nil r5
  obtain rfl : args = #[v0, v1, v2, v3, v4, v5] := by cases args; simp_all
  obtain ⟨rfl, rfl⟩ := trodVars_none hV
  obtain ⟨s0, rfl, hs0⟩ := okWide_struct Tryz.underlying24 (hval 0 24 v0 rfl rfl)
  have kk0 := h0
  have lt0 : ∀ x ∈ p0, x.block < W.heap.size := by obtain ⟨m, hm⟩ := kk0; exact DataW.trod_lt m _ _ _ hm
  obtain ⟨x0, hr0, hw0⟩ : ∃ x : K22.den, readC (at_ W) K22 x s0.toList ∧ Wf K22 x := by obtain ⟨fuel, hf⟩ := h0; exact op24.op hf
  obtain ⟨s1, rfl, hs1⟩ := okWide_struct Tryz.underlying26 (hval 1 26 v1 rfl rfl)
  have kk1 := h1
  have lt1 : ∀ x ∈ p1, x.block < W.heap.size := by obtain ⟨m, hm⟩ := kk1; exact DataW.trod_lt m _ _ _ hm
  obtain ⟨x1, hr1, hw1⟩ : ∃ x : K25.den, readC (at_ W) K25 x s1.toList ∧ Wf K25 x := by obtain ⟨fuel, hf⟩ := h1; exact op26.op hf
  obtain ⟨s2, rfl, hs2⟩ := okWide_struct Tryz.underlying29 (hval 2 29 v2 rfl rfl)
  have kk2 := h2
  have lt2 : ∀ x ∈ p2, x.block < W.heap.size := by obtain ⟨m, hm⟩ := kk2; exact DataW.trod_lt m _ _ _ hm
  obtain ⟨x2, hr2, hw2⟩ : ∃ x : K28.den, readC (at_ W) K28 x s2.toList ∧ Wf K28 x := by obtain ⟨fuel, hf⟩ := h2; exact op29.op hf
  obtain ⟨s3, rfl, hs3⟩ := okWide_struct Tryz.underlying33 (hval 3 33 v3 rfl rfl)
  have kk3 := h3
  have lt3 : ∀ x ∈ p3, x.block < W.heap.size := by obtain ⟨m, hm⟩ := kk3; exact DataW.trod_lt m _ _ _ hm
  obtain ⟨x3, hr3, hw3⟩ : ∃ x : K32.den, readC (at_ W) K32 x s3.toList ∧ Wf K32 x := by obtain ⟨fuel, hf⟩ := h3; exact op33.op hf
  obtain ⟨s4, rfl, hs4⟩ := okWide_struct Tryz.underlying36 (hval 4 36 v4 rfl rfl)
  have kk4 := h4
  have lt4 : ∀ x ∈ p4, x.block < W.heap.size := by obtain ⟨m, hm⟩ := kk4; exact DataW.trod_lt m _ _ _ hm
  obtain ⟨x4, hr4, hw4⟩ : ∃ x : K35.den, readC (at_ W) K35 x s4.toList ∧ Wf K35 x := by obtain ⟨fuel, hf⟩ := h4; exact op36.op hf
  obtain ⟨a5, len5, cap5, rfl⟩ := okWide_slice Tryz.underlying37 (hval 5 37 v5 rfl rfl)
  have kk5 := h5
  have lt5 : ∀ x ∈ p5, x.block < W.heap.size := by obtain ⟨m, hm⟩ := kk5; exact DataW.trod_lt m _ _ _ hm
  obtain ⟨x5, hr5, hw5⟩ : ∃ x : K37.den, readC (at_ W) K37 x [.slice a5 len5 cap5] ∧ Wf K37 x := by obtain ⟨fuel, hf⟩ := h5; exact op37.op hf
  clear hA0 hval0 hsz0
  obtain ⟨k, hp⟩ := Go.Proofs.YtpihkhknehadbabGreat.Pure.FnExactNewHall x0 x1 x2 x3 x4 x5 hw0 hw1 hw2 hw3 hw4 hw5
  have hc : Calls Tryz.prog 3 #[.agg s0, .agg s1, .agg s2, .agg s3, .agg s4, .slice a5 len5 cap5] W (fun e w' => e = .returned (.bool true) ∧ Below W.heap.size W w') := law_end (vals := [.agg s0, .agg s1, .agg s2, .agg s3, .agg s4, .slice a5 len5 cap5]) laws_FnExactNewHall.ok (x0, x1, x2, x3, x4, x5.1, ()) (lent0 rfl) hp ⟨Eng.one_struct rfl hr0 _, Eng.one_struct rfl hr1 _, Eng.one_struct rfl hr2 _, Eng.one_struct rfl hr3 _, Eng.one_struct rfl hr4 _, Eng.one_cell rfl hr5 _, trivial⟩
  refine hc.mono fun e W' hb => ?_
  obtain ⟨he, bel⟩ := hb
  subst he
  exact ⟨_, rfl, _, _, _, [], _, [], hW', trodAll_mk1 (shut_bool Tryz.underlying4 _), (trodAll_cons_mk (Below.trod laidOut (by kernel_rfl) (of_decide_eq_true (by kernel_rfl)) kk0 bel lt0) (trodAll_cons_mk (Below.trod laidOut (by kernel_rfl) (of_decide_eq_true (by kernel_rfl)) kk1 bel lt1) (trodAll_cons_mk (Below.trod laidOut (by kernel_rfl) (of_decide_eq_true (by kernel_rfl)) kk2 bel lt2) (trodAll_cons_mk (Below.trod laidOut (by kernel_rfl) (of_decide_eq_true (by kernel_rfl)) kk3 bel lt3) (trodAll_cons_mk (Below.trod laidOut (by kernel_rfl) (of_decide_eq_true (by kernel_rfl)) kk4 bel lt4) (trodAll_cons_mk (Below.trod laidOut (by kernel_rfl) (of_decide_eq_true (by kernel_rfl)) kk5 bel lt5) trodAll_mk0)))))), rfl, bel.frame _, fun h => by cases h⟩
theorem calls_ : (Rows.fnExactNewHallRow.inPlace == Tryz.prog.inPlace 3) = true := by kernel_rfl
theorem loose_ : (Rows.fnExactNewHallRow.unfollowed == Tryz.prog.unfollowed 3) = true := by kernel_rfl
theorem again_ : (Rows.fnExactNewHallRow.recurses == Tryz.prog.recurses 3) = true := by kernel_rfl
theorem named_ : (Rows.fnExactNewHallRow.named == Tryz.prog.varsNamed 3) = true := by kernel_rfl
set_option maxRecDepth 100000 in
theorem joined : joinedFacts Tryz.pinned.checked.prog 3 Tryz.f3 Rows.fnExactNewHallSpec Rows.fnExactNewHallRow = true := by
  unfold joinedFacts
  repeat' with_reducible refine Seat.and2 ?_ ?_
  all_goals first | with_reducible exact Seat.enter | with_reducible refine Seat.lifts _ ?_ | with_reducible refine Seat.make _ ?_ | with_reducible exact calls_ | with_reducible exact loose_ | with_reducible exact again_ | with_reducible exact named_ | skip
  all_goals first | with_reducible rfl | kernel_rfl
theorem over : Rows.fnExactNewHallRow.holds Tryz.pinned (OpenSpec.ofChange Rows.fnExactNewHallSpec) :=
  OpenClaim.holds_of_wide 3 Tryz.f3 rfl rfl rfl rfl rfl rfl rfl ⟨rfl, rfl, rfl, rfl, rfl⟩ rfl rfl rfl rfl rfl (by kernel_rfl) Tryz.func3 joined
    (of_decide_eq_true (by kernel_rfl)) (by unfold Func.isWrapper; first | (rw [if_pos (by decide +kernel)]; kernel_rfl) | (rw [if_neg (by decide +kernel)]; exact ⟨rfl, rfl⟩))
    (fun os started H enc _ => lifted os started H enc)
theorem proved : Rows.FnExactNewHallSaid := over
#print axioms proved
end Go.Proofs.YtpihkhknehadbabGreat.fnExactNewHall
namespace Go.Proofs.YtpihkhknehadbabGreat
/-- The row, under a short name, for the claim. -/
theorem fnExactNewHall_holds : Rows.FnExactNewHallSaid := fnExactNewHall.proved
end Go.Proofs.YtpihkhknehadbabGreat
