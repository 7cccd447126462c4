/- What the reference's checks say of a loop and a store. No condition. -/
import Derived.Test.YtpihkhknehadbaaGreatPSpec
namespace Go.Proofs.YtpihkhknehadbaaGreat.Eng
set_option linter.unusedVariables false
set_option linter.unusedSimpArgs false
abbrev Chute := Int × Int × List (Int × Unit) × Unit
abbrev Want := Int × List (Int × Unit) × Unit
abbrev LoopT := List (Int × Unit) × Int × List Chute × List Want × Unit
def nz (l : List (Int × Unit)) : List (Int × Unit) := l.filter fun x => decide (x.1 ≠ 0)
def inCh (l : List Chute) : List (Int × Unit) := l.flatMap fun c => c.2.2.1
def bagsL (l : LoopT) : List (Int × Unit) := nz l.1 ++ inCh l.2.2.1
def AscP (l : List (Int × Unit)) (n : Nat) : Prop := ∀ i, i < l.length → (0 ≤ (rdP (0, ()) l i).1 ∧ (rdP (0, ()) l i).1 < n) ∧ (0 < i → (rdP (0, ()) l (i - 1)).1 < (rdP (0, ()) l i).1)
def ChuteP (n : Nat) (c : Chute) : Prop := (0 ≤ c.1 ∧ c.1 < n) ∧ (0 ≤ c.2.1 ∧ c.2.1 ≤ 40) ∧ (c.2.2.1.length : Int) ≤ c.2.1
def LoopP (l : LoopT) : Prop := (2 ≤ l.1.length ∧ l.1.length ≤ 60) ∧ (0 ≤ l.2.1 ∧ l.2.1 < l.1.length) ∧ l.2.2.1.length ≤ 8 ∧ l.2.2.2.1.length ≤ 60 ∧ (∀ c ∈ l.2.2.1, ChuteP l.1.length c) ∧ (l.2.2.1.map (·.1)).Nodup ∧
  (∀ b ∈ bagsL l, 1 ≤ b.1) ∧ (bagsL l).Nodup ∧ (∀ w ∈ l.2.2.2.1, 1 ≤ w.1 ∧ AscP w.2.1 l.2.2.1.length) ∧ (l.2.2.2.1.map (·.1)).Nodup
theorem nz_len (l : List (Int × Unit)) : (nz l).length ≤ l.length := List.length_filter_le _ _
theorem nz_s {l : List (Int × Unit)} {i : Nat} (h : i < l.length) : nz (l.take (i + 1)) = nz (l.take i) ++ (if (rdP (0, ()) l i).1 ≠ 0 then [rdP (0, ()) l i] else []) := by
  rw [take_s (d := (0, ())) h, nz, List.filter_append]
  congr 1
  by_cases e : (rdP (0, ()) l i).1 = 0 <;> simp [e]
theorem inCh_s {l : List Chute} {i : Nat} (h : i < l.length) : inCh (l.take (i + 1)) = inCh (l.take i) ++ (rdP (0, 0, [], ()) l i).2.2.1 := by
  rw [take_s (d := (0, 0, [], ())) h, inCh, List.flatMap_append]; simp [inCh]
theorem inCh_len {l : List Chute} {n : Nat} : ∀ i, i ≤ l.length → (∀ j, j < i → ChuteP n (rdP (0, 0, [], ()) l j)) → (inCh (l.take i)).length ≤ 40 * i
  | 0, _, _ => by simp [inCh]
  | i + 1, hi, h => by
    have ih := inCh_len (l := l) (n := n) i (by omega) (fun j hj => h j (by omega))
    obtain ⟨_, h2, h3⟩ := h i (by omega)
    rw [inCh_s (by omega), List.length_append]
    omega
/-- the loop over what a chute may be told -/
theorem asc_loop {k : Nat} (hk : K0 ≤ k) {R : Type} (l : List (Int × Unit)) (n : Nat) (hl : l.length ≤ 1048576) (hn : n ≤ 8) (e r : Option R) (F : (Int × Unit → Option R) → Int × Unit → Option R)
    (hF : ∀ (i : Nat) rec, i < l.length → F rec ((i : Int), ()) = br (dc ((0 ≤ (rdP (0, ()) l i).1 ∧ (rdP (0, ()) l i).1 < n) ∧ (0 < i → (rdP (0, ()) l (i - 1)).1 < (rdP (0, ()) l i).1))) (rec (((i + 1 : Nat) : Int), ())) r) (hE : ∀ rec, F rec ((l.length : Int), ()) = e) :
    loopN F k (0, ()) = br (dc (AscP l n)) e r := by
  unfold K0 at hk
  rw [loop_while (n := l.length) (r := r) (e := e) (fun j => ((j : Int), ())) (fun i => (0 ≤ (rdP (0, ()) l i).1 ∧ (rdP (0, ()) l i).1 < n) ∧ (0 < i → (rdP (0, ()) l (i - 1)).1 < (rdP (0, ()) l i).1)) (by simp) (fun i hi _ rec => hF i rec hi) (fun _ rec => hE rec) (by omega)]
  rfl
theorem spec_LoopOk_f {k : Nat} (hk : K0 ≤ k) (x : LoopT) (hw : ∀ w ∈ x.2.2.2.1, w.2.1.length ≤ 1048576) : spec_LoopOk.f k x = chkP (LoopP x) := by
  have hk' := hk
  unfold K0 at hk
  unfold spec_LoopOk.f
  simp only [spec_l01In_f, bnd_chk, br_not, chk_F, chk_T, ltI_dc, ln_e, lett_e, app_e]
  by_cases h1 : 2 ≤ x.1.length ∧ x.1.length ≤ 60
  case neg => rw [br_neg (by omega)]; exact chk_congr ⟨fun z => z.elim, fun z => h1 z.1⟩
  rw [br_pos (by omega), subI_id (x := (x.1.length : Int)) (by omega)]
  by_cases h2 : 0 ≤ x.2.1 ∧ x.2.1 < x.1.length
  case neg => rw [br_neg (by omega)]; exact chk_congr ⟨fun z => z.elim, fun z => h2 z.2.1⟩
  rw [br_pos (by omega)]
  by_cases h3 : x.2.2.1.length ≤ 8
  case neg => rw [br_pos (by omega)]; exact chk_congr ⟨fun z => z.elim, fun z => h3 z.2.2.1⟩
  rw [br_neg (by omega)]
  by_cases h4 : x.2.2.2.1.length ≤ 60
  case neg => rw [br_pos (by omega)]; exact chk_congr ⟨fun z => z.elim, fun z => h4 z.2.2.2.1⟩
  rw [br_neg (by omega)]
  rw [loop_run (n := x.1.length) (r := chkP (LoopP x)) (fun i => (nz (x.1.take i), (i : Int), ())) ?h0 ?hs ?he ?hk]
  case h0 => simp [nz]
  case hk => omega
  case hs =>
    intro i hi rec
    have hlen := nz_len (x.1.take i)
    rw [List.length_take] at hlen
    have hlen2 : (nz (x.1.take i)).length ≤ 60 := by omega
    have hf := fitL_T (l := nz (x.1.take i)) (m := [((rdP (0, ()) x.1 i).1, ())]) (by simp only [List.length_cons, List.length_nil]; omega)
    rw [nz_s hi]
    by_cases hz : (rdP (0, ()) x.1 i).1 = 0
    · rw [if_neg (fun z => z hz), List.append_nil]
      simp (disch := omega) only [lett_e, bnd_s, bnd_chk, br_not, br_t, br_f, br_T, br_F, not_true_eq_false, not_false_eq_true, chk_T, chk_F, chk_eq, eqI_dc, ltI_dc, leI_dc, eqN_dc, notB_dc, andB_dc, andB_t, eqB_dc, notB_t, notB_f, inR_dc, upR_dc, ln_e, app_e, tk_e, dp_e, upd_e, repl_e, natI_n, br_pos, br_neg, addI_n, fitN_T]
      rfl
    · rw [if_pos hz]
      simp (disch := omega) only [lett_e, bnd_s, bnd_chk, br_not, br_t, br_f, br_T, br_F, not_true_eq_false, not_false_eq_true, chk_T, chk_F, chk_eq, eqI_dc, ltI_dc, leI_dc, eqN_dc, notB_dc, andB_dc, andB_t, eqB_dc, notB_t, notB_f, inR_dc, upR_dc, ln_e, app_e, tk_e, dp_e, upd_e, repl_e, natI_n, br_pos, br_neg, addI_n, fitN_T, hf]
      rfl
  case he =>
    intro rec
    have hlen := nz_len x.1
    simp (disch := omega) only [lett_e, bnd_s, bnd_chk, br_not, br_t, br_f, br_T, br_F, not_true_eq_false, not_false_eq_true, chk_T, chk_F, chk_eq, eqI_dc, ltI_dc, leI_dc, eqN_dc, notB_dc, andB_dc, andB_t, eqB_dc, notB_t, notB_f, inR_dc, upR_dc, ln_e, app_e, tk_e, dp_e, upd_e, repl_e, natI_n, br_pos, br_neg, addI_n, fitN_T, List.take_length]
    rw [loop_while (n := x.2.2.1.length) (r := chkP False) (e := chkP ((∀ b ∈ bagsL x, 1 ≤ b.1) ∧ (bagsL x).Nodup ∧ (∀ w ∈ x.2.2.2.1, 1 ≤ w.1 ∧ AscP w.2.1 x.2.2.1.length) ∧ (x.2.2.2.1.map (·.1)).Nodup)) (fun i => (nz x.1 ++ inCh (x.2.2.1.take i), (i : Int), ())) (fun i => ChuteP x.1.length (rdP (0, 0, [], ()) x.2.2.1 i) ∧ ∀ j, j < i → (rdP (0, 0, [], ()) x.2.2.1 j).1 ≠ (rdP (0, 0, [], ()) x.2.2.1 i).1) ?h1 ?hs1 ?he1 ?hk1]
    case h1 => simp [inCh]
    case hk1 => omega
    case hs1 =>
      intro i hi hp rec
      have hlen2 := inCh_len (n := x.1.length) (l := x.2.2.1) i (by omega) (fun j hj => (hp j hj).1)
      rw [inCh_s hi, ← List.append_assoc]
      simp (disch := omega) only [lett_e, bnd_s, bnd_chk, br_not, br_t, br_f, br_T, br_F, not_true_eq_false, not_false_eq_true, chk_T, chk_F, chk_eq, eqI_dc, ltI_dc, leI_dc, eqN_dc, notB_dc, andB_dc, andB_t, eqB_dc, notB_t, notB_f, inR_dc, upR_dc, ln_e, app_e, tk_e, dp_e, upd_e, repl_e, natI_n, br_pos, br_neg, addI_n, fitN_T]
      by_cases hc : ChuteP x.1.length (rdP (0, 0, [], ()) x.2.2.1 i)
      case neg =>
        rw [br_neg (p := ChuteP x.1.length (rdP (0, 0, [], ()) x.2.2.1 i) ∧ _) (fun z => hc z.1)]
        unfold ChuteP at hc
        simp only [g1, g2]
        exact br_neg (fun z => hc ⟨⟨by omega, by omega⟩, z.2.1, by omega⟩) _ _
      obtain ⟨c1, c2, c3⟩ := hc
      have hf := fitL_T (l := nz x.1 ++ inCh (x.2.2.1.take i)) (m := (rdP (0, 0, [], ()) x.2.2.1 i).2.2.1) (by rw [List.length_append]; omega)
      rw [loop_while (n := i) (r := chkP False) (e := rec (nz x.1 ++ inCh (x.2.2.1.take i) ++ (rdP (0, 0, [], ()) x.2.2.1 i).2.2.1, ((i + 1 : Nat) : Int), ())) (fun j => ((j : Int), ())) (fun j => (rdP (0, 0, [], ()) x.2.2.1 j).1 ≠ (rdP (0, 0, [], ()) x.2.2.1 i).1) ?h2 ?hs2 ?he2 ?hk2]
      case h2 => simp
      case hk2 => omega
      case hs2 => intro j hj _ rec; simp (disch := omega) only [lett_e, bnd_s, bnd_chk, br_not, br_t, br_f, br_T, br_F, not_true_eq_false, not_false_eq_true, chk_T, chk_F, chk_eq, eqI_dc, ltI_dc, leI_dc, eqN_dc, notB_dc, andB_dc, andB_t, eqB_dc, notB_t, notB_f, inR_dc, upR_dc, ln_e, app_e, tk_e, dp_e, upd_e, repl_e, natI_n, br_pos, br_neg, addI_n, fitN_T, g1]; rfl
      case he2 => intro _ rec2; simp (disch := omega) only [lett_e, bnd_s, bnd_chk, br_not, br_t, br_f, br_T, br_F, not_true_eq_false, not_false_eq_true, chk_T, chk_F, chk_eq, eqI_dc, ltI_dc, leI_dc, eqN_dc, notB_dc, andB_dc, andB_t, eqB_dc, notB_t, notB_f, inR_dc, upR_dc, ln_e, app_e, tk_e, dp_e, upd_e, repl_e, natI_n, br_pos, br_neg, addI_n, fitN_T, hf]; rfl
      simp (disch := omega) only [lett_e, bnd_s, bnd_chk, br_not, br_t, br_f, br_T, br_F, not_true_eq_false, not_false_eq_true, chk_T, chk_F, chk_eq, eqI_dc, ltI_dc, leI_dc, eqN_dc, notB_dc, andB_dc, andB_t, eqB_dc, notB_t, notB_f, inR_dc, upR_dc, ln_e, app_e, tk_e, dp_e, upd_e, repl_e, natI_n, br_pos, br_neg, addI_n, fitN_T]
      exact br_iff ⟨fun z => ⟨⟨c1, c2, c3⟩, z⟩, fun z => z.2⟩ _ _
    case he1 =>
      intro hp rec
      have hlen2 := inCh_len (n := x.1.length) (l := x.2.2.1) _ (Nat.le_refl _) (fun j hj => (hp j hj).1)
      rw [List.take_length] at hlen2
      simp (disch := omega) only [lett_e, bnd_s, bnd_chk, br_not, br_t, br_f, br_T, br_F, not_true_eq_false, not_false_eq_true, chk_T, chk_F, chk_eq, eqI_dc, ltI_dc, leI_dc, eqN_dc, notB_dc, andB_dc, andB_t, eqB_dc, notB_t, notB_f, inR_dc, upR_dc, ln_e, app_e, tk_e, dp_e, upd_e, repl_e, natI_n, br_pos, br_neg, addI_n, fitN_T, List.take_length]
      have hb : nz x.1 ++ inCh x.2.2.1 = bagsL x := rfl
      have hbl : (bagsL x).length ≤ 1000 := by rw [← hb, List.length_append]; omega
      rw [hb, loop_while (n := (bagsL x).length) (r := chkP False) (e := chkP ((∀ w ∈ x.2.2.2.1, 1 ≤ w.1 ∧ AscP w.2.1 x.2.2.1.length) ∧ (x.2.2.2.1.map (·.1)).Nodup)) (fun i => ((i : Int), ())) (fun i => 1 ≤ (rdP (0, ()) (bagsL x) i).1 ∧ rdP (0, ()) (bagsL x) i ∉ (bagsL x).take i) ?h3 ?hs3 ?he3 ?hk3]
      case h3 => simp
      case hk3 => omega
      case hs3 =>
        intro i hi _ rec
        have hl : ((bagsL x).take i).length ≤ 1048576 := by rw [List.length_take]; omega
        simp (disch := omega) only [lett_e, bnd_s, bnd_chk, br_not, br_t, br_f, br_T, br_F, not_true_eq_false, not_false_eq_true, chk_T, chk_F, chk_eq, eqI_dc, ltI_dc, leI_dc, eqN_dc, notB_dc, andB_dc, andB_t, eqB_dc, notB_t, notB_f, inR_dc, upR_dc, ln_e, app_e, tk_e, dp_e, upd_e, repl_e, natI_n, br_pos, br_neg, addI_n, fitN_T, spec_l03Has_f hk' _ _ hl]
        simp only [g1, g2]
        exact br_iff (by rw [Int.not_lt]) _ _
      case he3 =>
        intro _ rec
        simp (disch := omega) only [lett_e, bnd_s, bnd_chk, br_not, br_t, br_f, br_T, br_F, not_true_eq_false, not_false_eq_true, chk_T, chk_F, chk_eq, eqI_dc, ltI_dc, leI_dc, eqN_dc, notB_dc, andB_dc, andB_t, eqB_dc, notB_t, notB_f, inR_dc, upR_dc, ln_e, app_e, tk_e, dp_e, upd_e, repl_e, natI_n, br_pos, br_neg, addI_n, fitN_T]
        rw [loop_chk (n := x.2.2.2.1.length) (Q := True) (fun i => ((i : Int), ())) (fun i => (1 ≤ (rdP (0, [], ()) x.2.2.2.1 i).1 ∧ AscP (rdP (0, [], ()) x.2.2.2.1 i).2.1 x.2.2.1.length) ∧ ∀ j, j < i → (rdP (0, [], ()) x.2.2.2.1 j).1 ≠ (rdP (0, [], ()) x.2.2.2.1 i).1) ?h4 ?hk4 ?hs4 ?he4]
        case h4 => simp
        case hk4 => omega
        case he4 => intro _ rec; simp (disch := omega) only [lett_e, bnd_s, bnd_chk, br_not, br_t, br_f, br_T, br_F, not_true_eq_false, not_false_eq_true, chk_T, chk_F, chk_eq, eqI_dc, ltI_dc, leI_dc, eqN_dc, notB_dc, andB_dc, andB_t, eqB_dc, notB_t, notB_f, inR_dc, upR_dc, ln_e, app_e, tk_e, dp_e, upd_e, repl_e, natI_n, br_pos, br_neg, addI_n, fitN_T]
        case hs4 =>
          intro i hi _ rec
          have hwl := hw _ (by rw [rd_lt hi]; exact List.getElem_mem hi : rdP (0, [], ()) x.2.2.2.1 i ∈ x.2.2.2.1)
          simp (disch := omega) only [lett_e, bnd_s, bnd_chk, br_not, br_t, br_f, br_T, br_F, not_true_eq_false, not_false_eq_true, chk_T, chk_F, chk_eq, eqI_dc, ltI_dc, leI_dc, eqN_dc, notB_dc, andB_dc, andB_t, eqB_dc, notB_t, notB_f, inR_dc, upR_dc, ln_e, app_e, tk_e, dp_e, upd_e, repl_e, natI_n, br_pos, br_neg, addI_n, fitN_T]
          rw [loop_while (n := i) (r := chkP False) (e := br (dc (AscP (rdP (0, [], ()) x.2.2.2.1 i).2.1 x.2.2.1.length)) (rec (((i + 1 : Nat) : Int), ())) (chkP False)) (fun j => ((j : Int), ())) (fun j => (rdP (0, [], ()) x.2.2.2.1 j).1 ≠ (rdP (0, [], ()) x.2.2.2.1 i).1) ?h5 ?hs5 ?he5 ?hk5]
          case h5 => simp
          case hk5 => omega
          case hs5 => intro j hj _ rec; simp (disch := omega) only [lett_e, bnd_s, bnd_chk, br_not, br_t, br_f, br_T, br_F, not_true_eq_false, not_false_eq_true, chk_T, chk_F, chk_eq, eqI_dc, ltI_dc, leI_dc, eqN_dc, notB_dc, andB_dc, andB_t, eqB_dc, notB_t, notB_f, inR_dc, upR_dc, ln_e, app_e, tk_e, dp_e, upd_e, repl_e, natI_n, br_pos, br_neg, addI_n, fitN_T, g1]; rfl
          case he5 =>
            intro _ rec2
            simp (disch := omega) only [lett_e, bnd_s, bnd_chk, br_not, br_t, br_f, br_T, br_F, not_true_eq_false, not_false_eq_true, chk_T, chk_F, chk_eq, eqI_dc, ltI_dc, leI_dc, eqN_dc, notB_dc, andB_dc, andB_t, eqB_dc, notB_t, notB_f, inR_dc, upR_dc, ln_e, app_e, tk_e, dp_e, upd_e, repl_e, natI_n, br_pos, br_neg, addI_n, fitN_T]
            refine asc_loop hk' _ _ hwl h3 _ _ _ (fun m rec3 hm => ?_) (fun rec3 => ?_)
            · simp (disch := omega) only [lett_e, bnd_s, bnd_chk, br_not, br_t, br_f, br_T, br_F, not_true_eq_false, not_false_eq_true, chk_T, chk_F, chk_eq, eqI_dc, ltI_dc, leI_dc, eqN_dc, notB_dc, andB_dc, andB_t, eqB_dc, notB_t, notB_f, inR_dc, upR_dc, ln_e, app_e, tk_e, dp_e, upd_e, repl_e, natI_n, br_pos, br_neg, addI_n, fitN_T, spec_l01In_f]
              rw [subI_id (x := (x.2.2.1.length : Int)) (by omega)]
              by_cases hm0 : 0 < m
              · obtain ⟨m, rfl⟩ : ∃ m', m = m' + 1 := ⟨m - 1, by omega⟩
                simp (disch := omega) only [lett_e, bnd_s, bnd_chk, br_not, br_t, br_f, br_T, br_F, not_true_eq_false, not_false_eq_true, chk_T, chk_F, chk_eq, eqI_dc, ltI_dc, leI_dc, eqN_dc, notB_dc, andB_dc, andB_t, eqB_dc, notB_t, notB_f, inR_dc, upR_dc, ln_e, app_e, tk_e, dp_e, upd_e, repl_e, natI_n, br_pos, br_neg, addI_n, fitN_T, subI_nat, Nat.add_sub_cancel, g1, g2]
                exact br_iff (by grind) _ _
              · simp (disch := omega) only [lett_e, bnd_s, bnd_chk, br_not, br_t, br_f, br_T, br_F, not_true_eq_false, not_false_eq_true, chk_T, chk_F, chk_eq, eqI_dc, ltI_dc, leI_dc, eqN_dc, notB_dc, andB_dc, andB_t, eqB_dc, notB_t, notB_f, inR_dc, upR_dc, ln_e, app_e, tk_e, dp_e, upd_e, repl_e, natI_n, br_pos, br_neg, addI_n, fitN_T]
                exact br_iff (by grind) _ _
            · simp (disch := omega) only [lett_e, bnd_s, bnd_chk, br_not, br_t, br_f, br_T, br_F, not_true_eq_false, not_false_eq_true, chk_T, chk_F, chk_eq, eqI_dc, ltI_dc, leI_dc, eqN_dc, notB_dc, andB_dc, andB_t, eqB_dc, notB_t, notB_f, inR_dc, upR_dc, ln_e, app_e, tk_e, dp_e, upd_e, repl_e, natI_n, br_pos, br_neg, addI_n, fitN_T]
              rfl
          simp only [g1, g2]
          exact br_iff (by grind) _ _
        refine chk_congr ?_
        rw [nodup_rd (d := (0, [], ())), ← all_rd (d := (0, [], ()))]
        grind
      rw [br_chkF']
      refine chk_congr ?_
      rw [nodup_take (d := (0, ())), ← all_rd (d := (0, ())) (l := bagsL x)]
      grind
    rw [br_chkF']
    refine chk_congr ?_
    unfold LoopP
    rw [nodup_rd (d := (0, 0, [], ())) (l := x.2.2.1), ← all_rd (d := (0, 0, [], ())) (l := x.2.2.1)]
    grind
/-! ### Stores, notes -/
abbrev Kept := Int × Int × Unit
abbrev StoreT := Int × List (List Kept × Unit) × Unit
def bagsK (l : List Kept) : List (Int × Unit) := l.map fun x => (x.1, ())
def bagsS (l : List (List Kept × Unit)) : List (Int × Unit) := l.flatMap fun x => bagsK x.1
theorem bagsS_s {l : List (List Kept × Unit)} {i : Nat} (h : i < l.length) : bagsS (l.take (i + 1)) = bagsS (l.take i) ++ bagsK (rdP ([], ()) l i).1 := by
  rw [take_s (d := ([], ())) h, bagsS, List.flatMap_append]; simp [bagsS]
theorem bagsK_s {l : List Kept} {i : Nat} (h : i < l.length) : bagsK (l.take (i + 1)) = bagsK (l.take i) ++ [((rdP (0, 0, ()) l i).1, ())] := by
  rw [take_s (d := (0, 0, ())) h, bagsK, List.map_append]; rfl
def StoreP (s : StoreT) : Prop := (1 ≤ s.1 ∧ s.1 ≤ 5) ∧ (1 ≤ s.2.1.length ∧ s.2.1.length ≤ 4) ∧ (∀ l ∈ s.2.1, (l.1.length : Int) ≤ s.1 ∧ ∀ x ∈ l.1, 1 ≤ x.1 ∧ (0 ≤ x.2.1 ∧ x.2.1 ≤ 100000)) ∧ (bagsS s.2.1).Nodup
theorem bagsS_len {l : List (List Kept × Unit)} : ∀ i, i ≤ l.length → (∀ j, j < i → (rdP ([], ()) l j).1.length ≤ 5) → (bagsS (l.take i)).length ≤ 5 * i
  | 0, _, _ => by simp [bagsS]
  | i + 1, hi, h => by
    have ih := bagsS_len (l := l) i (by omega) (fun j hj => h j (by omega))
    have := h i (by omega)
    rw [bagsS_s (by omega), List.length_append]
    simp only [bagsK, List.length_map]
    omega
theorem nodup_app_take {a : List (Int × Unit)} {l : List Kept} (ha : a.Nodup) : (a ++ bagsK l).Nodup ↔ ∀ i, i < l.length → ((rdP (0, 0, ()) l i).1, ()) ∉ a ++ bagsK (l.take i) := by
  rw [List.nodup_append, nodup_take (d := (0, ())) (l := bagsK l)]
  have hlen : (bagsK l).length = l.length := by simp [bagsK]
  have hrd : ∀ i, i < l.length → rdP (0, ()) (bagsK l) i = ((rdP (0, 0, ()) l i).1, ()) := fun i hi => by
    rw [rd_lt (by omega), rd_lt hi]; simp [bagsK]
  have htk : ∀ i, (bagsK l).take i = bagsK (l.take i) := fun i => by simp [bagsK, List.map_take]
  constructor
  · rintro ⟨_, h2, h3⟩ i hi hm
    rcases List.mem_append.1 hm with hm | hm
    · exact h3 _ hm _ (by rw [← hrd i hi, rd_lt (by omega)]; exact List.getElem_mem _) rfl
    · have := h2 i (by omega)
      rw [hrd i hi, htk] at this
      exact this hm
  · intro h
    refine ⟨ha, fun i hi => ?_, fun x hx y hy e => ?_⟩
    · rw [hlen] at hi
      rw [hrd i hi, htk]
      exact fun hm => h i hi (List.mem_append_right _ hm)
    · subst e
      obtain ⟨i, hi, e⟩ := List.getElem_of_mem hy
      have hi' : i < l.length := by omega
      apply h i hi'
      rw [← hrd i hi', rd_lt hi, e]
      exact List.mem_append_left _ hx
theorem spec_StoreOk_f {k : Nat} (hk : K0 ≤ k) (x : StoreT) : spec_StoreOk.f k x = chkP (StoreP x) := by
  have hk' := hk
  unfold K0 at hk
  unfold spec_StoreOk.f
  simp only [spec_l01In_f, bnd_chk, br_not, chk_F, chk_T, ltI_dc, ln_e, lett_e, app_e]
  by_cases h1 : 1 ≤ x.1 ∧ x.1 ≤ 5
  case neg => rw [br_neg (by omega)]; exact chk_congr ⟨fun z => z.elim, fun z => h1 z.1⟩
  rw [br_pos (by omega)]
  by_cases h2 : 1 ≤ x.2.1.length ∧ x.2.1.length ≤ 4
  case neg => rw [br_neg (by omega)]; exact chk_congr ⟨fun z => z.elim, fun z => h2 z.2.1⟩
  rw [br_pos (by omega)]
  let P : Nat → Prop := fun i => ((rdP ([], ()) x.2.1 i).1.length : Int) ≤ x.1 ∧ (∀ y ∈ (rdP ([], ()) x.2.1 i).1, 1 ≤ y.1 ∧ (0 ≤ y.2.1 ∧ y.2.1 ≤ 100000)) ∧ (bagsS (x.2.1.take (i + 1))).Nodup
  rw [loop_chk (n := x.2.1.length) (Q := True) (fun i => (bagsS (x.2.1.take i), (i : Int), ())) P ?h0 ?hk0 ?hs0 ?he0]
  case h0 => simp [bagsS]
  case hk0 => omega
  case he0 => intro _ rec; simp (disch := omega) only [lett_e, bnd_s, bnd_chk, br_not, br_t, br_f, br_T, br_F, not_true_eq_false, not_false_eq_true, chk_T, chk_F, chk_eq, eqI_dc, ltI_dc, leI_dc, eqN_dc, notB_dc, andB_dc, andB_t, eqB_dc, notB_t, notB_f, inR_dc, upR_dc, ln_e, app_e, tk_e, dp_e, upd_e, repl_e, natI_n, br_pos, br_neg, addI_n, fitN_T]
  case hs0 =>
    intro i hi hp rec
    have hlen := bagsS_len (l := x.2.1) i (by omega) (fun j hj => by have := (hp j hj).1; omega)
    have hnd : (bagsS (x.2.1.take i)).Nodup := by
      cases i with
      | zero => simp [bagsS]
      | succ i => exact (hp i (by omega)).2.2
    simp (disch := omega) only [lett_e, bnd_s, bnd_chk, br_not, br_t, br_f, br_T, br_F, not_true_eq_false, not_false_eq_true, chk_T, chk_F, chk_eq, eqI_dc, ltI_dc, leI_dc, eqN_dc, notB_dc, andB_dc, andB_t, eqB_dc, notB_t, notB_f, inR_dc, upR_dc, ln_e, app_e, tk_e, dp_e, upd_e, repl_e, natI_n, br_pos, br_neg, addI_n, fitN_T]
    by_cases hd : ((rdP ([], ()) x.2.1 i).1.length : Int) ≤ x.1
    case neg => simp (disch := omega) only [lett_e, bnd_s, bnd_chk, br_not, br_t, br_f, br_T, br_F, not_true_eq_false, not_false_eq_true, chk_T, chk_F, chk_eq, eqI_dc, ltI_dc, leI_dc, eqN_dc, notB_dc, andB_dc, andB_t, eqB_dc, notB_t, notB_f, inR_dc, upR_dc, ln_e, app_e, tk_e, dp_e, upd_e, repl_e, natI_n, br_pos, br_neg, addI_n, fitN_T]
    simp (disch := omega) only [lett_e, bnd_s, bnd_chk, br_not, br_t, br_f, br_T, br_F, not_true_eq_false, not_false_eq_true, chk_T, chk_F, chk_eq, eqI_dc, ltI_dc, leI_dc, eqN_dc, notB_dc, andB_dc, andB_t, eqB_dc, notB_t, notB_f, inR_dc, upR_dc, ln_e, app_e, tk_e, dp_e, upd_e, repl_e, natI_n, br_pos, br_neg, addI_n, fitN_T]
    rw [loop_while (n := (rdP ([], ()) x.2.1 i).1.length) (r := chkP False) (e := rec (bagsS (x.2.1.take i) ++ bagsK (rdP ([], ()) x.2.1 i).1, ((i + 1 : Nat) : Int), ())) (fun j => (bagsS (x.2.1.take i) ++ bagsK ((rdP ([], ()) x.2.1 i).1.take j), (j : Int), ()))
      (fun j => (1 ≤ (rdP (0, 0, ()) (rdP ([], ()) x.2.1 i).1 j).1 ∧ (0 ≤ (rdP (0, 0, ()) (rdP ([], ()) x.2.1 i).1 j).2.1 ∧ (rdP (0, 0, ()) (rdP ([], ()) x.2.1 i).1 j).2.1 ≤ 100000)) ∧ ((rdP (0, 0, ()) (rdP ([], ()) x.2.1 i).1 j).1, ()) ∉ bagsS (x.2.1.take i) ++ bagsK ((rdP ([], ()) x.2.1 i).1.take j)) ?h1 ?hs1 ?he1 ?hk1]
    case h1 => simp [bagsK]
    case hk1 => omega
    case hs1 =>
      intro j hj _ rec2
      have hl2 : (bagsS (x.2.1.take i) ++ bagsK ((rdP ([], ()) x.2.1 i).1.take j)).length ≤ 100 := by
        rw [List.length_append]; simp only [bagsK, List.length_map, List.length_take]; omega
      have hf := fitL_T (l := bagsS (x.2.1.take i) ++ bagsK ((rdP ([], ()) x.2.1 i).1.take j)) (m := [((rdP (0, 0, ()) (rdP ([], ()) x.2.1 i).1 j).1, ())]) (by simp only [List.length_cons, List.length_nil]; omega)
      rw [bagsK_s hj, ← List.append_assoc]
      simp (disch := omega) only [lett_e, bnd_s, bnd_chk, br_not, br_t, br_f, br_T, br_F, not_true_eq_false, not_false_eq_true, chk_T, chk_F, chk_eq, eqI_dc, ltI_dc, leI_dc, eqN_dc, notB_dc, andB_dc, andB_t, eqB_dc, notB_t, notB_f, inR_dc, upR_dc, ln_e, app_e, tk_e, dp_e, upd_e, repl_e, natI_n, br_pos, br_neg, addI_n, fitN_T, spec_l01In_f, spec_l03Has_f hk' _ _ (Nat.le_trans hl2 (by omega)), hf]
      simp only [g1, g2]
      exact br_iff' (by grind) (fun _ => rfl)
    case he1 => intro _ rec2; simp (disch := omega) only [lett_e, bnd_s, bnd_chk, br_not, br_t, br_f, br_T, br_F, not_true_eq_false, not_false_eq_true, chk_T, chk_F, chk_eq, eqI_dc, ltI_dc, leI_dc, eqN_dc, notB_dc, andB_dc, andB_t, eqB_dc, notB_t, notB_f, inR_dc, upR_dc, ln_e, app_e, tk_e, dp_e, upd_e, repl_e, natI_n, br_pos, br_neg, addI_n, fitN_T, List.take_length]; rfl
    rw [bagsS_s hi]
    have hn := nodup_app_take (l := (rdP ([], ()) x.2.1 i).1) hnd
    refine br_iff' ?_ (fun _ => rfl)
    show _ ↔ _ ∧ _ ∧ (bagsS (x.2.1.take (i + 1))).Nodup
    rw [bagsS_s hi, hn, ← all_rd (d := (0, 0, ())) (l := (rdP ([], ()) x.2.1 i).1)]
    grind
  refine chk_congr ?_
  unfold StoreP
  rw [← all_rd (d := ([], ())) (l := x.2.1)]
  constructor
  · rintro ⟨h, _⟩
    refine ⟨h1, h2, fun i hi => ⟨(h i hi).1, (h i hi).2.1⟩, ?_⟩
    have := (h (x.2.1.length - 1) (by omega)).2.2
    rwa [show x.2.1.length - 1 + 1 = x.2.1.length by omega, List.take_length] at this
  · rintro ⟨_, _, h3, h4⟩
    refine ⟨fun i hi => ⟨(h3 i hi).1, (h3 i hi).2, ?_⟩, trivial⟩
    refine List.Sublist.nodup ?_ h4
    conv => rhs; rw [← List.take_append_drop (i + 1) x.2.1]
    simp only [bagsS, List.flatMap_append]
    exact List.sublist_append_left _ _
abbrev NoteT := Int × Int × Int × Int × Int × Unit
def NoteP (n : NoteT) : Prop := (1 ≤ n.1 ∧ n.1 ≤ 10000) ∧ (1 ≤ n.2.1 ∧ n.2.1 ≤ 4) ∧ (1 ≤ n.2.2.2.2.1 ∧ n.2.2.2.2.1 ≤ 20) ∧ (if n.2.1 = 4 then n.2.2.1 = 0 else 1 ≤ n.2.2.1 ∧ n.2.2.1 ≤ 1000) ∧ (if n.2.1 = 1 ∨ n.2.1 = 4 then 1 ≤ n.2.2.2.1 ∧ n.2.2.2.1 ≤ 1000 else n.2.2.2.1 = 0)
theorem spec_NoteOk_f (k : Nat) (n : NoteT) : spec_NoteOk.f k n = chkP (NoteP n) := by
  unfold spec_NoteOk.f
  simp (disch := omega) only [lett_e, bnd_s, bnd_chk, br_not, br_t, br_f, br_T, br_F, not_true_eq_false, not_false_eq_true, chk_T, chk_F, chk_eq, eqI_dc, ltI_dc, leI_dc, eqN_dc, notB_dc, andB_dc, andB_t, eqB_dc, notB_t, notB_f, inR_dc, upR_dc, ln_e, app_e, tk_e, dp_e, upd_e, repl_e, natI_n, br_pos, br_neg, addI_n, fitN_T, spec_l01In_f, br_chkF, br_chkF', br_chkT, br_chk]
  exact chk_congr (by unfold NoteP; grind)
def NotesP (l : List NoteT) : Prop := l.length ≤ 60 ∧ (∀ n ∈ l, NoteP n) ∧ ∀ i, 0 < i → i < l.length → (rdP (0, 0, 0, 0, 0, ()) l (i - 1)).1 < (rdP (0, 0, 0, 0, 0, ()) l i).1
theorem spec_NotesOk_f {k : Nat} (hk : K0 ≤ k) (l : List NoteT) : spec_NotesOk.f k l = chkP (NotesP l) := by
  unfold K0 at hk
  unfold spec_NotesOk.f
  by_cases h1 : l.length ≤ 60
  case neg => simp (disch := omega) only [lett_e, bnd_s, bnd_chk, br_not, br_t, br_f, br_T, br_F, not_true_eq_false, not_false_eq_true, chk_T, chk_F, chk_eq, eqI_dc, ltI_dc, leI_dc, eqN_dc, notB_dc, andB_dc, andB_t, eqB_dc, notB_t, notB_f, inR_dc, upR_dc, ln_e, app_e, tk_e, dp_e, upd_e, repl_e, natI_n, br_pos, br_neg, addI_n, fitN_T]; exact chk_congr ⟨fun z => z.elim, fun z => h1 z.1⟩
  simp (disch := omega) only [lett_e, bnd_s, bnd_chk, br_not, br_t, br_f, br_T, br_F, not_true_eq_false, not_false_eq_true, chk_T, chk_F, chk_eq, eqI_dc, ltI_dc, leI_dc, eqN_dc, notB_dc, andB_dc, andB_t, eqB_dc, notB_t, notB_f, inR_dc, upR_dc, ln_e, app_e, tk_e, dp_e, upd_e, repl_e, natI_n, br_pos, br_neg, addI_n, fitN_T]
  rw [loop_chk (n := l.length) (Q := True) (fun i => ((i : Int), ())) (fun i => NoteP (rdP (0, 0, 0, 0, 0, ()) l i) ∧ (0 < i → (rdP (0, 0, 0, 0, 0, ()) l (i - 1)).1 < (rdP (0, 0, 0, 0, 0, ()) l i).1)) ?h0 ?hk0 ?hs0 ?he0]
  case h0 => simp
  case hk0 => omega
  case he0 => intro _ rec; simp (disch := omega) only [lett_e, bnd_s, bnd_chk, br_not, br_t, br_f, br_T, br_F, not_true_eq_false, not_false_eq_true, chk_T, chk_F, chk_eq, eqI_dc, ltI_dc, leI_dc, eqN_dc, notB_dc, andB_dc, andB_t, eqB_dc, notB_t, notB_f, inR_dc, upR_dc, ln_e, app_e, tk_e, dp_e, upd_e, repl_e, natI_n, br_pos, br_neg, addI_n, fitN_T]
  case hs0 =>
    intro i hi _ rec
    simp (disch := omega) only [lett_e, bnd_s, bnd_chk, br_not, br_t, br_f, br_T, br_F, not_true_eq_false, not_false_eq_true, chk_T, chk_F, chk_eq, eqI_dc, ltI_dc, leI_dc, eqN_dc, notB_dc, andB_dc, andB_t, eqB_dc, notB_t, notB_f, inR_dc, upR_dc, ln_e, app_e, tk_e, dp_e, upd_e, repl_e, natI_n, br_pos, br_neg, addI_n, fitN_T, spec_NoteOk_f]
    by_cases h0 : 0 < i
    · obtain ⟨i, rfl⟩ : ∃ m, i = m + 1 := ⟨i - 1, by omega⟩
      simp (disch := omega) only [lett_e, bnd_s, bnd_chk, br_not, br_t, br_f, br_T, br_F, not_true_eq_false, not_false_eq_true, chk_T, chk_F, chk_eq, eqI_dc, ltI_dc, leI_dc, eqN_dc, notB_dc, andB_dc, andB_t, eqB_dc, notB_t, notB_f, inR_dc, upR_dc, ln_e, app_e, tk_e, dp_e, upd_e, repl_e, natI_n, br_pos, br_neg, addI_n, fitN_T, subI_nat, Nat.add_sub_cancel, g1, g2]
      exact br_iff (by grind) _ _
    · simp (disch := omega) only [lett_e, bnd_s, bnd_chk, br_not, br_t, br_f, br_T, br_F, not_true_eq_false, not_false_eq_true, chk_T, chk_F, chk_eq, eqI_dc, ltI_dc, leI_dc, eqN_dc, notB_dc, andB_dc, andB_t, eqB_dc, notB_t, notB_f, inR_dc, upR_dc, ln_e, app_e, tk_e, dp_e, upd_e, repl_e, natI_n, br_pos, br_neg, addI_n, fitN_T]
      exact br_iff (by grind) _ _
  refine chk_congr ?_
  unfold NotesP
  rw [← all_rd (d := (0, 0, 0, 0, 0, ())) (l := l)]
  grind
end Go.Proofs.YtpihkhknehadbaaGreat.Eng
