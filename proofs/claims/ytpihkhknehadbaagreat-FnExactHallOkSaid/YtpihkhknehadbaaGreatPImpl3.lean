/- What the program's checks of a loop, a store, notes, flights say. No condition. -/
import Derived.Test.YtpihkhknehadbaaGreatPImpl2
namespace Go.Proofs.YtpihkhknehadbaaGreat.Eng
set_option linter.unusedVariables false
set_option linter.unusedSimpArgs false
theorem inCh_take {l : List Chute} {i : Nat} : (inCh (l.take i)).length ≤ (inCh l).length := by
  conv => rhs; rw [← List.take_append_drop i l]
  unfold inCh
  rw [List.flatMap_append, List.length_append]; omega
/-- the chutes' bags behind a row -/
theorem inCh_loop {R : Type} {k : Nat} (hk : K0 ≤ k) (l : List Chute) (c : List (Int × Unit)) (hl : l.length ≤ 1048576) (hc : c.length ≤ 1048576) (hb : (inCh l).length ≤ 1048576) {F : (List (Int × Unit) × Int × Unit → Option R) → List (Int × Unit) × Int × Unit → Option R} (K : List (Int × Unit) → Option R)
    (hF : ∀ (d : List (Int × Unit)) (i : Nat) rec, i < l.length → d.length + (rdP (0, 0, [], ()) l i).2.2.1.length < 68719476736 → F rec (d, (i : Int), ()) = rec (d ++ (rdP (0, 0, [], ()) l i).2.2.1, ((i + 1 : Nat) : Int), ())) (hE : ∀ d rec, F rec (d, (l.length : Int), ()) = K d) :
    loopN F k (c, 0, ()) = K (c ++ inCh l) := by
  unfold K0 at hk
  refine loop_run (n := l.length) (fun i => (c ++ inCh (l.take i), (i : Int), ())) (by simp [inCh]) (fun i hi rec => ?_) (fun rec => by rw [List.take_length]; exact hE _ _) (by omega)
  have h1 := inCh_take (l := l) (i := i + 1)
  rw [inCh_s hi, List.length_append] at h1
  rw [hF _ _ _ hi (by rw [List.length_append]; omega), inCh_s hi, List.append_assoc]
theorem impl_bagsOf_f {k : Nat} (hk : K0 ≤ k) (x : LoopT) (h1 : x.1.length ≤ 1048576) (h2 : x.2.2.1.length ≤ 1048576) (h3 : (inCh x.2.2.1).length ≤ 1048576) : impl_bagsOf.f k x = some (bagsL x, ()) := by
  have hk' := hk
  unfold K0 at hk
  unfold impl_bagsOf.f
  simp (disch := omega) only [lett_e, bnd_s, bnd_chk, br_not, br_t, br_f, br_T, br_F, not_true_eq_false, not_false_eq_true, chk_T, chk_F, chk_eq, eqI_dc, ltI_dc, leI_dc, eqN_dc, notB_dc, andB_dc, andB_t, eqB_dc, notB_t, notB_f, inR_dc, upR_dc, ln_e, app_e, tk_e, dp_e, upd_e, repl_e, natI_n, br_pos, br_neg, addI_n, fitN_T, slices_Clone_int_int_f k h1]
  have key : ∀ c : List (Int × Unit), c.length ≤ 1048576 → loopN (fun rec6 (c5 : List (Int × Unit) × Int × Unit) => br (dc (c5.2.1 < x.2.2.1.length)) (br (dc (0 ≤ c5.2.1 ∧ c5.2.1 < x.2.2.1.length)) (br (fitL c5.1 (rdP (0, 0, [], ()) x.2.2.1 (natI c5.2.1)).2.2.1) (rec6 (c5.1 ++ (rdP (0, 0, [], ()) x.2.2.1 (natI c5.2.1)).2.2.1, addI .i64 c5.2.1 1, ())) none) none) (some (c5.1, ()))) k (c, 0, ()) = some (c ++ inCh x.2.2.1, ()) := fun c hc => by
    refine inCh_loop hk' x.2.2.1 c h2 hc h3 (fun d => some (d, ())) (fun d i rec hi hd => ?_) (fun d rec => ?_)
    · have hf := fitL_T hd
      simp (disch := omega) only [lett_e, bnd_s, bnd_chk, br_not, br_t, br_f, br_T, br_F, not_true_eq_false, not_false_eq_true, chk_T, chk_F, chk_eq, eqI_dc, ltI_dc, leI_dc, eqN_dc, notB_dc, andB_dc, andB_t, eqB_dc, notB_t, notB_f, inR_dc, upR_dc, ln_e, app_e, tk_e, dp_e, upd_e, repl_e, natI_n, br_pos, br_neg, addI_n, fitN_T, hf]
      rfl
    · simp (disch := omega) only [lett_e, bnd_s, bnd_chk, br_not, br_t, br_f, br_T, br_F, not_true_eq_false, not_false_eq_true, chk_T, chk_F, chk_eq, eqI_dc, ltI_dc, leI_dc, eqN_dc, notB_dc, andB_dc, andB_t, eqB_dc, notB_t, notB_f, inR_dc, upR_dc, ln_e, app_e, tk_e, dp_e, upd_e, repl_e, natI_n, br_pos, br_neg, addI_n, fitN_T]
  refine del_nz (F2 := ?F2) hk' x.1 h1 (fun c => some (c ++ inCh x.2.2.1, ())) ?f1 ?e1 ?f2 ?e2
  case f1 => intro i rec hi; simp (disch := omega) only [lett_e, bnd_s, bnd_chk, br_not, br_t, br_f, br_T, br_F, not_true_eq_false, not_false_eq_true, chk_T, chk_F, chk_eq, eqI_dc, ltI_dc, leI_dc, eqN_dc, notB_dc, andB_dc, andB_t, eqB_dc, notB_t, notB_f, inR_dc, upR_dc, ln_e, app_e, tk_e, dp_e, upd_e, repl_e, natI_n, br_pos, br_neg, addI_n, fitN_T]; rfl
  case e1 => intro rec; simp (disch := omega) only [lett_e, bnd_s, bnd_chk, br_not, br_t, br_f, br_T, br_F, not_true_eq_false, not_false_eq_true, chk_T, chk_F, chk_eq, eqI_dc, ltI_dc, leI_dc, eqN_dc, notB_dc, andB_dc, andB_t, eqB_dc, notB_t, notB_f, inR_dc, upR_dc, ln_e, app_e, tk_e, dp_e, upd_e, repl_e, natI_n, br_pos, br_neg, addI_n, fitN_T]; exact key _ h1
  case f2 =>
    intro c i j rec hc hij hj
    by_cases hz : (rdP (0, ()) c j).1 = 0
    · simp (disch := omega) only [lett_e, bnd_s, bnd_chk, br_not, br_t, br_f, br_T, br_F, not_true_eq_false, not_false_eq_true, chk_T, chk_F, chk_eq, eqI_dc, ltI_dc, leI_dc, eqN_dc, notB_dc, andB_dc, andB_t, eqB_dc, notB_t, notB_f, inR_dc, upR_dc, ln_e, app_e, tk_e, dp_e, upd_e, repl_e, natI_n, br_pos, br_neg, addI_n, fitN_T]; rfl
    · simp (disch := omega) only [lett_e, bnd_s, bnd_chk, br_not, br_t, br_f, br_T, br_F, not_true_eq_false, not_false_eq_true, chk_T, chk_F, chk_eq, eqI_dc, ltI_dc, leI_dc, eqN_dc, notB_dc, andB_dc, andB_t, eqB_dc, notB_t, notB_f, inR_dc, upR_dc, ln_e, app_e, tk_e, dp_e, upd_e, repl_e, natI_n, br_pos, br_neg, addI_n, fitN_T]; rfl
  case e2 =>
    intro c i rec hc hi
    have hd2 : (c.take i ++ List.replicate (c.drop i).length ((0 : Int), ())).length = c.length := by simp; omega
    simp (disch := omega) only [lett_e, bnd_s, bnd_chk, br_not, br_t, br_f, br_T, br_F, not_true_eq_false, not_false_eq_true, chk_T, chk_F, chk_eq, eqI_dc, ltI_dc, leI_dc, eqN_dc, notB_dc, andB_dc, andB_t, eqB_dc, notB_t, notB_f, inR_dc, upR_dc, ln_e, app_e, tk_e, dp_e, upd_e, repl_e, natI_n, br_pos, br_neg, addI_n, fitN_T, hd2]
    rw [List.take_left' (by rw [List.length_take]; omega)]
    exact key _ (by rw [List.length_take]; omega)
theorem impl_LoopOk_f {k : Nat} (hk : K0 ≤ k) (x : LoopT) (h0 : x.1.length ≤ 1048576) (hc : x.2.2.1.length ≤ 1048576) (hb : (inCh x.2.2.1).length ≤ 1048576) (hw : ∀ w ∈ x.2.2.2.1, w.2.1.length ≤ 1048576) (hbl0 : (bagsL x).length ≤ 1048576) : impl_LoopOk.f k x = chkP (LoopP x) := by
  have hk' := hk
  unfold K0 at hk
  unfold impl_LoopOk.f
  by_cases h1 : 2 ≤ x.1.length ∧ x.1.length ≤ 60
  case neg =>
    rw [chk_neg (p := LoopP x) fun z => h1 z.1]
    by_cases h : (x.1.length : Int) < 2 <;> simp (disch := omega) only [lett_e, bnd_s, bnd_chk, br_not, br_t, br_f, br_T, br_F, not_true_eq_false, not_false_eq_true, chk_T, chk_F, chk_eq, eqI_dc, ltI_dc, leI_dc, eqN_dc, notB_dc, andB_dc, andB_t, eqB_dc, notB_t, notB_f, inR_dc, upR_dc, ln_e, app_e, tk_e, dp_e, upd_e, repl_e, natI_n, br_pos, br_neg, addI_n, fitN_T]
  by_cases h2 : 0 ≤ x.2.1 ∧ x.2.1 < x.1.length
  case neg =>
    rw [chk_neg (p := LoopP x) fun z => h2 z.2.1]
    by_cases h : x.2.1 < 0 <;> simp (disch := omega) only [lett_e, bnd_s, bnd_chk, br_not, br_t, br_f, br_T, br_F, not_true_eq_false, not_false_eq_true, chk_T, chk_F, chk_eq, eqI_dc, ltI_dc, leI_dc, eqN_dc, notB_dc, andB_dc, andB_t, eqB_dc, notB_t, notB_f, inR_dc, upR_dc, ln_e, app_e, tk_e, dp_e, upd_e, repl_e, natI_n, br_pos, br_neg, addI_n, fitN_T]
  by_cases h3 : x.2.2.1.length ≤ 8
  case neg => rw [chk_neg (p := LoopP x) fun z => h3 z.2.2.1]; simp (disch := omega) only [lett_e, bnd_s, bnd_chk, br_not, br_t, br_f, br_T, br_F, not_true_eq_false, not_false_eq_true, chk_T, chk_F, chk_eq, eqI_dc, ltI_dc, leI_dc, eqN_dc, notB_dc, andB_dc, andB_t, eqB_dc, notB_t, notB_f, inR_dc, upR_dc, ln_e, app_e, tk_e, dp_e, upd_e, repl_e, natI_n, br_pos, br_neg, addI_n, fitN_T]
  by_cases h4 : x.2.2.2.1.length ≤ 60
  case neg => rw [chk_neg (p := LoopP x) fun z => h4 z.2.2.2.1]; simp (disch := omega) only [lett_e, bnd_s, bnd_chk, br_not, br_t, br_f, br_T, br_F, not_true_eq_false, not_false_eq_true, chk_T, chk_F, chk_eq, eqI_dc, ltI_dc, leI_dc, eqN_dc, notB_dc, andB_dc, andB_t, eqB_dc, notB_t, notB_f, inR_dc, upR_dc, ln_e, app_e, tk_e, dp_e, upd_e, repl_e, natI_n, br_pos, br_neg, addI_n, fitN_T]
  simp (disch := omega) only [lett_e, bnd_s, bnd_chk, br_not, br_t, br_f, br_T, br_F, not_true_eq_false, not_false_eq_true, chk_T, chk_F, chk_eq, eqI_dc, ltI_dc, leI_dc, eqN_dc, notB_dc, andB_dc, andB_t, eqB_dc, notB_t, notB_f, inR_dc, upR_dc, ln_e, app_e, tk_e, dp_e, upd_e, repl_e, natI_n, br_pos, br_neg, addI_n, fitN_T, impl_bagsOf_f hk' (x.1, x.2.1, x.2.2.1, x.2.2.2.1, ()) h0 hc hb]
  let at_ : List Chute → List (Int × Unit) := fun l => l.map fun c => (c.1, ())
  let wb : List Want → List (Int × Unit) := fun l => l.map fun c => (c.1, ())
  rw [loop_while (n := x.2.2.1.length) (r := chkP False) (e := chkP ((∀ w ∈ x.2.2.2.1, 1 ≤ w.1 ∧ AscP w.2.1 x.2.2.1.length) ∧ (∀ b ∈ bagsL x, 1 ≤ b.1) ∧ (bagsL x).Nodup ∧ (at_ x.2.2.1).Nodup ∧ (wb x.2.2.2.1).Nodup)) (fun i => (at_ (x.2.2.1.take i), (i : Int), ())) (fun i => ChuteP x.1.length (rdP (0, 0, [], ()) x.2.2.1 i)) ?h5 ?hs5 ?he5 ?hk5]
  case h5 => simp [at_]
  case hk5 => omega
  case hs5 =>
    intro i hi _ rec
    have hl : (at_ (x.2.2.1.take i)).length ≤ 8 := by simp [at_]; omega
    have hf := fitL_T (l := at_ (x.2.2.1.take i)) (m := [((rdP (0, 0, [], ()) x.2.2.1 i).1, ())]) (by simp; omega)
    simp (disch := omega) only [lett_e, bnd_s, bnd_chk, br_not, br_t, br_f, br_T, br_F, not_true_eq_false, not_false_eq_true, chk_T, chk_F, chk_eq, eqI_dc, ltI_dc, leI_dc, eqN_dc, notB_dc, andB_dc, andB_t, eqB_dc, notB_t, notB_f, inR_dc, upR_dc, ln_e, app_e, tk_e, dp_e, upd_e, repl_e, natI_n, br_pos, br_neg, addI_n, fitN_T, hf, g1, g2]
    refine br_iff' (by unfold ChuteP; grind) (fun _ => ?_)
    congr 2
    rw [take_s (d := (0, 0, [], ())) hi]
    simp [at_]
  case he5 =>
    intro _ rec
    simp (disch := omega) only [lett_e, bnd_s, bnd_chk, br_not, br_t, br_f, br_T, br_F, not_true_eq_false, not_false_eq_true, chk_T, chk_F, chk_eq, eqI_dc, ltI_dc, leI_dc, eqN_dc, notB_dc, andB_dc, andB_t, eqB_dc, notB_t, notB_f, inR_dc, upR_dc, ln_e, app_e, tk_e, dp_e, upd_e, repl_e, natI_n, br_pos, br_neg, addI_n, fitN_T, List.take_length]
    have hat : (at_ x.2.2.1).length ≤ 1048576 := by simp [at_]; omega
    rw [loop_while (n := x.2.2.2.1.length) (r := chkP False) (e := chkP ((∀ b ∈ bagsL x, 1 ≤ b.1) ∧ (bagsL x).Nodup ∧ (at_ x.2.2.1).Nodup ∧ (wb x.2.2.2.1).Nodup)) (fun i => (wb (x.2.2.2.1.take i), (i : Int), ())) (fun i => 1 ≤ (rdP (0, [], ()) x.2.2.2.1 i).1 ∧ AscP (rdP (0, [], ()) x.2.2.2.1 i).2.1 x.2.2.1.length) ?h6 ?hs6 ?he6 ?hk6]
    case h6 => simp [wb]
    case hk6 => omega
    case hs6 =>
      intro i hi _ rec
      have hwl := hw _ (by rw [rd_lt hi]; exact List.getElem_mem hi : rdP (0, [], ()) x.2.2.2.1 i ∈ x.2.2.2.1)
      have hl : (wb (x.2.2.2.1.take i)).length ≤ 60 := by simp [wb]; omega
      have hf := fitL_T (l := wb (x.2.2.2.1.take i)) (m := [((rdP (0, [], ()) x.2.2.2.1 i).1, ())]) (by simp; omega)
      simp (disch := omega) only [lett_e, bnd_s, bnd_chk, br_not, br_t, br_f, br_T, br_F, not_true_eq_false, not_false_eq_true, chk_T, chk_F, chk_eq, eqI_dc, ltI_dc, leI_dc, eqN_dc, notB_dc, andB_dc, andB_t, eqB_dc, notB_t, notB_f, inR_dc, upR_dc, ln_e, app_e, tk_e, dp_e, upd_e, repl_e, natI_n, br_pos, br_neg, addI_n, fitN_T, hf, impl_areIndexes_f hk' _ _ hwl, g1, g2]
      refine br_iff' (by grind) (fun _ => ?_)
      congr 2
      rw [take_s (d := (0, [], ())) hi]
      simp [wb]
    case he6 =>
      intro _ rec
      have hbl : (bagsL x).length ≤ 2097152 := by
        unfold bagsL; rw [List.length_append]; have := nz_len x.1; omega
      have hbl2 : (bagsL x).length ≤ 1048576 := hbl0
      have hwl : (wb x.2.2.2.1).length ≤ 1048576 := by simp [wb]; omega
      have ebag : bagsL (x.1, x.2.1, x.2.2.1, x.2.2.2.1, ()) = bagsL x := rfl
      simp (disch := omega) only [lett_e, bnd_s, bnd_chk, br_not, br_t, br_f, br_T, br_F, not_true_eq_false, not_false_eq_true, chk_T, chk_F, chk_eq, eqI_dc, ltI_dc, leI_dc, eqN_dc, notB_dc, andB_dc, andB_t, eqB_dc, notB_t, notB_f, inR_dc, upR_dc, ln_e, app_e, tk_e, dp_e, upd_e, repl_e, natI_n, br_pos, br_neg, addI_n, fitN_T, List.take_length, ebag]
      rw [loop_while (n := (bagsL x).length) (r := chkP False) (e := chkP ((bagsL x).Nodup ∧ (at_ x.2.2.1).Nodup ∧ (wb x.2.2.2.1).Nodup)) (fun i => ((i : Int), ())) (fun i => 1 ≤ (rdP (0, ()) (bagsL x) i).1) ?h7 ?hs7 ?he7 ?hk7]
      case h7 => simp
      case hk7 => omega
      case hs7 => intro i hi _ rec; simp (disch := omega) only [lett_e, bnd_s, bnd_chk, br_not, br_t, br_f, br_T, br_F, not_true_eq_false, not_false_eq_true, chk_T, chk_F, chk_eq, eqI_dc, ltI_dc, leI_dc, eqN_dc, notB_dc, andB_dc, andB_t, eqB_dc, notB_t, notB_f, inR_dc, upR_dc, ln_e, app_e, tk_e, dp_e, upd_e, repl_e, natI_n, br_pos, br_neg, addI_n, fitN_T, g1, Int.not_lt]; rfl
      case he7 =>
        intro _ rec
        simp (disch := omega) only [lett_e, bnd_s, bnd_chk, br_not, br_t, br_f, br_T, br_F, not_true_eq_false, not_false_eq_true, chk_T, chk_F, chk_eq, eqI_dc, ltI_dc, leI_dc, eqN_dc, notB_dc, andB_dc, andB_t, eqB_dc, notB_t, notB_f, inR_dc, upR_dc, ln_e, app_e, tk_e, dp_e, upd_e, repl_e, natI_n, br_pos, br_neg, addI_n, fitN_T, impl_areDifferent_f hk' _ hbl2, impl_areDifferent_f hk' _ hat, impl_areDifferent_f hk' _ hwl, br_chkF']
      rw [br_chkF']
      exact chk_congr (and_congr_left fun _ => all_rd (P := fun y : Int × Unit => 1 ≤ y.1))
    rw [br_chkF']
    exact chk_congr (and_congr_left fun _ => all_rd (P := fun w : Want => 1 ≤ w.1 ∧ AscP w.2.1 x.2.2.1.length))
  rw [br_chkF', all_rd (P := ChuteP x.1.length)]
  refine chk_congr ?_
  have e1 : (at_ x.2.2.1).Nodup ↔ (x.2.2.1.map (·.1)).Nodup := by
    rw [nodup_rd (d := (0, 0, [], ()))]
    rw [nodup_rd (d := (0, 0, [], ()))]
    exact forall_congr' fun i => forall_congr' fun _ => forall_congr' fun j => forall_congr' fun _ => not_congr ⟨fun z => (Prod.mk.injEq _ _ _ _ ▸ z : _ ∧ _).1, fun z => by rw [z]⟩
  have e2 : (wb x.2.2.2.1).Nodup ↔ (x.2.2.2.1.map (·.1)).Nodup := by
    rw [nodup_rd (d := (0, [], ()))]
    rw [nodup_rd (d := (0, [], ()))]
    exact forall_congr' fun i => forall_congr' fun _ => forall_congr' fun j => forall_congr' fun _ => not_congr ⟨fun z => (Prod.mk.injEq _ _ _ _ ▸ z : _ ∧ _).1, fun z => by rw [z]⟩
  rw [e1, e2]
  unfold LoopP
  grind
theorem bagsS_len' (l : List (List Kept × Unit)) : (bagsS l).length = (l.map fun x => x.1.length).sum := by
  induction l with
  | nil => rfl
  | cons a l ih => simp only [bagsS, List.flatMap_cons, List.length_append, bagsK, List.length_map, List.map_cons, List.sum_cons] at ih ⊢; omega
theorem bagsS_take {l : List (List Kept × Unit)} {i : Nat} : (bagsS (l.take i)).length ≤ (bagsS l).length := by
  conv => rhs; rw [← List.take_append_drop i l]
  unfold bagsS
  rw [List.flatMap_append, List.length_append]; omega
theorem impl_bagsIn_f {k : Nat} (hk : K0 ≤ k) (x : StoreT) (h1 : x.2.1.length ≤ 1048576) (h2 : (bagsS x.2.1).length ≤ 1048576) : impl_bagsIn.f k x = some (bagsS x.2.1, ()) := by
  unfold K0 at hk
  unfold impl_bagsIn.f
  refine loop_run (n := x.2.1.length) (fun i => (bagsS (x.2.1.take i), (i : Int), ())) (by simp [bagsS]) (fun i hi rec => ?_) (fun rec => by simp (disch := omega) only [lett_e, bnd_s, bnd_chk, br_not, br_t, br_f, br_T, br_F, not_true_eq_false, not_false_eq_true, chk_T, chk_F, chk_eq, eqI_dc, ltI_dc, leI_dc, eqN_dc, notB_dc, andB_dc, andB_t, eqB_dc, notB_t, notB_f, inR_dc, upR_dc, ln_e, app_e, tk_e, dp_e, upd_e, repl_e, natI_n, br_pos, br_neg, addI_n, fitN_T, List.take_length]) (by omega)
  have hb := bagsS_take (l := x.2.1) (i := i + 1)
  rw [bagsS_s hi, List.length_append] at hb
  simp only [bagsK, List.length_map] at hb
  simp (disch := omega) only [lett_e, bnd_s, bnd_chk, br_not, br_t, br_f, br_T, br_F, not_true_eq_false, not_false_eq_true, chk_T, chk_F, chk_eq, eqI_dc, ltI_dc, leI_dc, eqN_dc, notB_dc, andB_dc, andB_t, eqB_dc, notB_t, notB_f, inR_dc, upR_dc, ln_e, app_e, tk_e, dp_e, upd_e, repl_e, natI_n, br_pos, br_neg, addI_n, fitN_T]
  rw [loop_run (n := (rdP ([], ()) x.2.1 i).1.length) (r := rec (bagsS (x.2.1.take i) ++ bagsK (rdP ([], ()) x.2.1 i).1, ((i + 1 : Nat) : Int), ())) (fun j => (bagsS (x.2.1.take i) ++ bagsK ((rdP ([], ()) x.2.1 i).1.take j), (j : Int), ())) ?h3 ?hs3 ?he3 ?hk3]
  case h3 => simp [bagsK]
  case hk3 => omega
  case hs3 =>
    intro j hj rec2
    have hf := fitL_T (l := bagsS (x.2.1.take i) ++ bagsK ((rdP ([], ()) x.2.1 i).1.take j)) (m := [((rdP (0, 0, ()) (rdP ([], ()) x.2.1 i).1 j).1, ())]) (by simp only [List.length_append, bagsK, List.length_map, List.length_take, List.length_cons, List.length_nil]; omega)
    simp (disch := omega) only [lett_e, bnd_s, bnd_chk, br_not, br_t, br_f, br_T, br_F, not_true_eq_false, not_false_eq_true, chk_T, chk_F, chk_eq, eqI_dc, ltI_dc, leI_dc, eqN_dc, notB_dc, andB_dc, andB_t, eqB_dc, notB_t, notB_f, inR_dc, upR_dc, ln_e, app_e, tk_e, dp_e, upd_e, repl_e, natI_n, br_pos, br_neg, addI_n, fitN_T, hf]
    rw [bagsK_s hj, List.append_assoc]
    rfl
  case he3 => intro rec2; simp (disch := omega) only [lett_e, bnd_s, bnd_chk, br_not, br_t, br_f, br_T, br_F, not_true_eq_false, not_false_eq_true, chk_T, chk_F, chk_eq, eqI_dc, ltI_dc, leI_dc, eqN_dc, notB_dc, andB_dc, andB_t, eqB_dc, notB_t, notB_f, inR_dc, upR_dc, ln_e, app_e, tk_e, dp_e, upd_e, repl_e, natI_n, br_pos, br_neg, addI_n, fitN_T, List.take_length]; rfl
  rw [bagsS_s hi]
theorem impl_StoreOk_f {k : Nat} (hk : K0 ≤ k) (x : StoreT) (h0 : (bagsS x.2.1).length ≤ 1048576) : impl_StoreOk.f k x = chkP (StoreP x) := by
  have hk' := hk
  unfold K0 at hk
  unfold impl_StoreOk.f
  by_cases h1 : 1 ≤ x.1 ∧ x.1 ≤ 5
  case neg =>
    rw [chk_neg (p := StoreP x) fun z => h1 z.1]
    by_cases h : x.1 < 1 <;> simp (disch := omega) only [lett_e, bnd_s, bnd_chk, br_not, br_t, br_f, br_T, br_F, not_true_eq_false, not_false_eq_true, chk_T, chk_F, chk_eq, eqI_dc, ltI_dc, leI_dc, eqN_dc, notB_dc, andB_dc, andB_t, eqB_dc, notB_t, notB_f, inR_dc, upR_dc, ln_e, app_e, tk_e, dp_e, upd_e, repl_e, natI_n, br_pos, br_neg, addI_n, fitN_T]
  by_cases h2 : 1 ≤ x.2.1.length ∧ x.2.1.length ≤ 4
  case neg =>
    rw [chk_neg (p := StoreP x) fun z => h2 z.2.1]
    by_cases h : (x.2.1.length : Int) < 1 <;> simp (disch := omega) only [lett_e, bnd_s, bnd_chk, br_not, br_t, br_f, br_T, br_F, not_true_eq_false, not_false_eq_true, chk_T, chk_F, chk_eq, eqI_dc, ltI_dc, leI_dc, eqN_dc, notB_dc, andB_dc, andB_t, eqB_dc, notB_t, notB_f, inR_dc, upR_dc, ln_e, app_e, tk_e, dp_e, upd_e, repl_e, natI_n, br_pos, br_neg, addI_n, fitN_T]
  have hi : x.2.1.length ≤ 1048576 := by omega
  have hbi := impl_bagsIn_f hk' (x.1, x.2.1, ()) hi h0
  have had := impl_areDifferent_f hk' (bagsS x.2.1) h0
  simp (disch := omega) only [lett_e, bnd_s, bnd_chk, br_not, br_t, br_f, br_T, br_F, not_true_eq_false, not_false_eq_true, chk_T, chk_F, chk_eq, eqI_dc, ltI_dc, leI_dc, eqN_dc, notB_dc, andB_dc, andB_t, eqB_dc, notB_t, notB_f, inR_dc, upR_dc, ln_e, app_e, tk_e, dp_e, upd_e, repl_e, natI_n, br_pos, br_neg, addI_n, fitN_T, hbi, had]
  rw [loop_chk (n := x.2.1.length) (Q := (bagsS x.2.1).Nodup) (fun j => ((j : Int), ())) (fun i => ((rdP ([], ()) x.2.1 i).1.length : Int) ≤ x.1 ∧ (∀ j, j < (rdP ([], ()) x.2.1 i).1.length → 1 ≤ (rdP (0, 0, ()) (rdP ([], ()) x.2.1 i).1 j).1 ∧ (0 ≤ (rdP (0, 0, ()) (rdP ([], ()) x.2.1 i).1 j).2.1 ∧ (rdP (0, 0, ()) (rdP ([], ()) x.2.1 i).1 j).2.1 ≤ 100000))) ?h3 ?hk3 ?hs3 ?he3]
  case h3 => simp
  case hk3 => omega
  case he3 => intro _ rec; simp (disch := omega) only [lett_e, bnd_s, bnd_chk, br_not, br_t, br_f, br_T, br_F, not_true_eq_false, not_false_eq_true, chk_T, chk_F, chk_eq, eqI_dc, ltI_dc, leI_dc, eqN_dc, notB_dc, andB_dc, andB_t, eqB_dc, notB_t, notB_f, inR_dc, upR_dc, ln_e, app_e, tk_e, dp_e, upd_e, repl_e, natI_n, br_pos, br_neg, addI_n, fitN_T]
  case hs3 =>
    intro i hi _ rec
    simp (disch := omega) only [lett_e, bnd_s, bnd_chk, br_not, br_t, br_f, br_T, br_F, not_true_eq_false, not_false_eq_true, chk_T, chk_F, chk_eq, eqI_dc, ltI_dc, leI_dc, eqN_dc, notB_dc, andB_dc, andB_t, eqB_dc, notB_t, notB_f, inR_dc, upR_dc, ln_e, app_e, tk_e, dp_e, upd_e, repl_e, natI_n, br_pos, br_neg, addI_n, fitN_T]
    by_cases hd : ((rdP ([], ()) x.2.1 i).1.length : Int) ≤ x.1
    case neg => simp (disch := omega) only [lett_e, bnd_s, bnd_chk, br_not, br_t, br_f, br_T, br_F, not_true_eq_false, not_false_eq_true, chk_T, chk_F, chk_eq, eqI_dc, ltI_dc, leI_dc, eqN_dc, notB_dc, andB_dc, andB_t, eqB_dc, notB_t, notB_f, inR_dc, upR_dc, ln_e, app_e, tk_e, dp_e, upd_e, repl_e, natI_n, br_pos, br_neg, addI_n, fitN_T]
    simp (disch := omega) only [lett_e, bnd_s, bnd_chk, br_not, br_t, br_f, br_T, br_F, not_true_eq_false, not_false_eq_true, chk_T, chk_F, chk_eq, eqI_dc, ltI_dc, leI_dc, eqN_dc, notB_dc, andB_dc, andB_t, eqB_dc, notB_t, notB_f, inR_dc, upR_dc, ln_e, app_e, tk_e, dp_e, upd_e, repl_e, natI_n, br_pos, br_neg, addI_n, fitN_T]
    rw [loop_while (n := (rdP ([], ()) x.2.1 i).1.length) (r := chkP False) (e := rec (((i + 1 : Nat) : Int), ())) (fun j => ((j : Int), ())) (fun j => 1 ≤ (rdP (0, 0, ()) (rdP ([], ()) x.2.1 i).1 j).1 ∧ (0 ≤ (rdP (0, 0, ()) (rdP ([], ()) x.2.1 i).1 j).2.1 ∧ (rdP (0, 0, ()) (rdP ([], ()) x.2.1 i).1 j).2.1 ≤ 100000)) ?h4 ?hs4 ?he4 ?hk4]
    case h4 => simp
    case hk4 => omega
    case hs4 =>
      intro j hj _ rec2
      simp (disch := omega) only [lett_e, bnd_s, bnd_chk, br_not, br_t, br_f, br_T, br_F, not_true_eq_false, not_false_eq_true, chk_T, chk_F, chk_eq, eqI_dc, ltI_dc, leI_dc, eqN_dc, notB_dc, andB_dc, andB_t, eqB_dc, notB_t, notB_f, inR_dc, upR_dc, ln_e, app_e, tk_e, dp_e, upd_e, repl_e, natI_n, br_pos, br_neg, addI_n, fitN_T, impl_isTick_f, g1, g2]
      exact br_iff (by grind) _ _
    case he4 => intro _ rec2; simp (disch := omega) only [lett_e, bnd_s, bnd_chk, br_not, br_t, br_f, br_T, br_F, not_true_eq_false, not_false_eq_true, chk_T, chk_F, chk_eq, eqI_dc, ltI_dc, leI_dc, eqN_dc, notB_dc, andB_dc, andB_t, eqB_dc, notB_t, notB_f, inR_dc, upR_dc, ln_e, app_e, tk_e, dp_e, upd_e, repl_e, natI_n, br_pos, br_neg, addI_n, fitN_T]; rfl
    exact br_iff (by grind) _ _
  refine chk_congr ?_
  unfold StoreP
  rw [← all_rd (d := ([], ())) (l := x.2.1)]
  have e : ∀ l : List Kept, (∀ j, j < l.length → 1 ≤ (rdP (0, 0, ()) l j).1 ∧ (0 ≤ (rdP (0, 0, ()) l j).2.1 ∧ (rdP (0, 0, ()) l j).2.1 ≤ 100000)) ↔ ∀ y ∈ l, 1 ≤ y.1 ∧ (0 ≤ y.2.1 ∧ y.2.1 ≤ 100000) := fun l => all_rd (P := fun y : Kept => 1 ≤ y.1 ∧ (0 ≤ y.2.1 ∧ y.2.1 ≤ 100000))
  simp only [e]
  grind
theorem impl_NoteOk_f (k : Nat) (n : NoteT) : impl_NoteOk.f k n = chkP (NoteP n) := by
  unfold impl_NoteOk.f
  simp (disch := omega) only [lett_e, bnd_s, bnd_chk, br_not, br_t, br_f, br_T, br_F, not_true_eq_false, not_false_eq_true, chk_T, chk_F, chk_eq, eqI_dc, ltI_dc, leI_dc, eqN_dc, notB_dc, andB_dc, andB_t, eqB_dc, notB_t, notB_f, inR_dc, upR_dc, ln_e, app_e, tk_e, dp_e, upd_e, repl_e, natI_n, br_pos, br_neg, addI_n, fitN_T, impl_isFrom1_f, br_chkF, br_chkF', br_chkT, br_chk]
  exact chk_congr (by unfold NoteP; grind)
theorem impl_NotesOk_f {k : Nat} (hk : K0 ≤ k) (l : List NoteT) (hl : l.length ≤ 1048576) : impl_NotesOk.f k l = chkP (NotesP l) := by
  unfold K0 at hk
  unfold impl_NotesOk.f
  rw [loop_chk (n := l.length) (Q := l.length ≤ 60) (fun i => ((i : Int), ())) (fun i => NoteP (rdP (0, 0, 0, 0, 0, ()) l i) ∧ (0 < i → (rdP (0, 0, 0, 0, 0, ()) l (i - 1)).1 < (rdP (0, 0, 0, 0, 0, ()) l i).1)) ?h0 ?hk0 ?hs0 ?he0]
  case h0 => simp
  case hk0 => omega
  case he0 => intro _ rec; simp (disch := omega) only [lett_e, bnd_s, bnd_chk, br_not, br_t, br_f, br_T, br_F, not_true_eq_false, not_false_eq_true, chk_T, chk_F, chk_eq, eqI_dc, ltI_dc, leI_dc, eqN_dc, notB_dc, andB_dc, andB_t, eqB_dc, notB_t, notB_f, inR_dc, upR_dc, ln_e, app_e, tk_e, dp_e, upd_e, repl_e, natI_n, br_pos, br_neg, addI_n, fitN_T]; exact chk_congr (by omega)
  case hs0 =>
    intro i hi _ rec
    simp (disch := omega) only [lett_e, bnd_s, bnd_chk, br_not, br_t, br_f, br_T, br_F, not_true_eq_false, not_false_eq_true, chk_T, chk_F, chk_eq, eqI_dc, ltI_dc, leI_dc, eqN_dc, notB_dc, andB_dc, andB_t, eqB_dc, notB_t, notB_f, inR_dc, upR_dc, ln_e, app_e, tk_e, dp_e, upd_e, repl_e, natI_n, br_pos, br_neg, addI_n, fitN_T, impl_NoteOk_f]
    by_cases h0 : 0 < i
    · obtain ⟨i, rfl⟩ : ∃ m, i = m + 1 := ⟨i - 1, by omega⟩
      simp (disch := omega) only [lett_e, bnd_s, bnd_chk, br_not, br_t, br_f, br_T, br_F, not_true_eq_false, not_false_eq_true, chk_T, chk_F, chk_eq, eqI_dc, ltI_dc, leI_dc, eqN_dc, notB_dc, andB_dc, andB_t, eqB_dc, notB_t, notB_f, inR_dc, upR_dc, ln_e, app_e, tk_e, dp_e, upd_e, repl_e, natI_n, br_pos, br_neg, addI_n, fitN_T, subI_nat, Nat.add_sub_cancel, g1, g2]
      exact br_iff (by grind) _ _
    · simp (disch := omega) only [lett_e, bnd_s, bnd_chk, br_not, br_t, br_f, br_T, br_F, not_true_eq_false, not_false_eq_true, chk_T, chk_F, chk_eq, eqI_dc, ltI_dc, leI_dc, eqN_dc, notB_dc, andB_dc, andB_t, eqB_dc, notB_t, notB_f, inR_dc, upR_dc, ln_e, app_e, tk_e, dp_e, upd_e, repl_e, natI_n, br_pos, br_neg, addI_n, fitN_T]
      exact br_iff (by grind) _ _
  refine chk_congr ?_
  unfold NotesP
  rw [← all_rd (d := (0, 0, 0, 0, 0, ())) (l := l)]
  grind
theorem impl_areFlights_f {k : Nat} (hk : K0 ≤ k) (x : HallT) : impl_areFlights.f k x = chkP (x.2.2.2.2.2.2.2.2.2.2.2.2.2.2.2.1.length ≤ 20 ∧ ∀ f ∈ x.2.2.2.2.2.2.2.2.2.2.2.2.2.2.2.1, FlightP x.2.2.2.2.2.2.2.2.2.2.1.length f) := by
  unfold K0 at hk
  unfold impl_areFlights.f
  by_cases h : x.2.2.2.2.2.2.2.2.2.2.2.2.2.2.2.1.length ≤ 20
  case neg => simp (disch := omega) only [lett_e, bnd_s, bnd_chk, br_not, br_t, br_f, br_T, br_F, not_true_eq_false, not_false_eq_true, chk_T, chk_F, chk_eq, eqI_dc, ltI_dc, leI_dc, eqN_dc, notB_dc, andB_dc, andB_t, eqB_dc, notB_t, notB_f, inR_dc, upR_dc, ln_e, app_e, tk_e, dp_e, upd_e, repl_e, natI_n, br_pos, br_neg, addI_n, fitN_T]; exact chk_congr ⟨fun z => z.elim, fun z => h z.1⟩
  simp (disch := omega) only [lett_e, bnd_s, bnd_chk, br_not, br_t, br_f, br_T, br_F, not_true_eq_false, not_false_eq_true, chk_T, chk_F, chk_eq, eqI_dc, ltI_dc, leI_dc, eqN_dc, notB_dc, andB_dc, andB_t, eqB_dc, notB_t, notB_f, inR_dc, upR_dc, ln_e, app_e, tk_e, dp_e, upd_e, repl_e, natI_n, br_pos, br_neg, addI_n, fitN_T]
  rw [loop_chk (n := x.2.2.2.2.2.2.2.2.2.2.2.2.2.2.2.1.length) (Q := True) (fun i => ((i : Int), ())) (fun i => FlightP x.2.2.2.2.2.2.2.2.2.2.1.length (rdP fd0 x.2.2.2.2.2.2.2.2.2.2.2.2.2.2.2.1 i)) ?h0 ?hk0 ?hs0 ?he0]
  case h0 => simp
  case hk0 => omega
  case he0 => intro _ rec; simp (disch := omega) only [lett_e, bnd_s, bnd_chk, br_not, br_t, br_f, br_T, br_F, not_true_eq_false, not_false_eq_true, chk_T, chk_F, chk_eq, eqI_dc, ltI_dc, leI_dc, eqN_dc, notB_dc, andB_dc, andB_t, eqB_dc, notB_t, notB_f, inR_dc, upR_dc, ln_e, app_e, tk_e, dp_e, upd_e, repl_e, natI_n, br_pos, br_neg, addI_n, fitN_T]; exact chk_pos (by omega)
  case hs0 =>
    intro i hi _ rec
    simp (disch := omega) only [lett_e, bnd_s, bnd_chk, br_not, br_t, br_f, br_T, br_F, not_true_eq_false, not_false_eq_true, chk_T, chk_F, chk_eq, eqI_dc, ltI_dc, leI_dc, eqN_dc, notB_dc, andB_dc, andB_t, eqB_dc, notB_t, notB_f, inR_dc, upR_dc, ln_e, app_e, tk_e, dp_e, upd_e, repl_e, natI_n, br_pos, br_neg, addI_n, fitN_T]
    rw [chk_neg (p := ¬ (0 ≤ (i : Int))) (by omega), dc_bool (rdP (0, 0, 0, false, 0, ()) x.2.2.2.2.2.2.2.2.2.2.2.2.2.2.2.1 i).2.2.2.1]
    simp (disch := omega) only [lett_e, bnd_s, bnd_chk, br_not, br_t, br_f, br_T, br_F, not_true_eq_false, not_false_eq_true, chk_T, chk_F, chk_eq, eqI_dc, ltI_dc, leI_dc, eqN_dc, notB_dc, andB_dc, andB_t, eqB_dc, notB_t, notB_f, inR_dc, upR_dc, ln_e, app_e, tk_e, dp_e, upd_e, repl_e, natI_n, br_pos, br_neg, addI_n, fitN_T, g1, g2, g4]
    refine br_iff' ?_ (fun _ => rfl)
    unfold FlightP
    grind
  rw [all_rd (P := FlightP x.2.2.2.2.2.2.2.2.2.2.1.length)]
  exact chk_congr (by grind)
end Go.Proofs.YtpihkhknehadbaaGreat.Eng
