/- The reference's search: what it computes. No condition. -/
import Derived.Test.YtcfbjloblbhdhaaPXsrch
import Derived.Test.YtcfbjloblbhdhaaDFnExactRepack
import Derived.Test.YtcfbjloblbhdhaaDFnPacked
namespace Go.Proofs.Ytcfbjloblbhdhaa.Eng
set_option linter.unusedVariables false
set_option linter.unusedSimpArgs false
theorem minI_nn (a b : Nat) : minI (a : Int) (b : Int) = ((min a b : Nat) : Int) := by unfold minI; split <;> omega
theorem few_search {k : Nat} (hk : K0 ≤ k) (m : LimT) (hW : 60 ≤ m.1) (hC : 1 ≤ m.2.1) (l : List Pc) (hl8 : l.length ≤ 8) (hl : ∀ x ∈ l, 0 ≤ x.2.1 ∧ x.2.1 ≤ 60) :
    ∀ d n, d < n → ∀ i, l.length - i = d → i ≤ l.length → ∀ cs, Was m.1 m.2.1 l cs i → ∃ v : Nat, v ≤ 8 ∧ Att m.1 m.2.1 l cs i v ∧ Low m.1 m.2.1 l cs i v ∧ spec_l07Few.fn n k (m, l, (i : Int), cs.map boxOf, ()) = some ((v : Int), ()) := by
  intro d
  induction d with
  | zero =>
    intro n hn i hd hi cs hw
    obtain rfl : i = l.length := by omega
    have hf := hw.few
    refine ⟨cs.length, by omega, ⟨cs, fun b hb => (hw.ok b hb).2, by rw [List.drop_length, List.append_nil], rfl⟩, fun xs es _ _ _ _ => by omega, ?_⟩
    obtain ⟨n, rfl⟩ : ∃ n', n = n' + 1 := ⟨n - 1, by omega⟩
    rw [spec_l07Few.fn]
    unfold spec_l07Few.body
    dsimp only
    rw [leI_dc, ln_e, br_pos (by omega), ln_e, List.length_map]
  | succ d ih =>
    intro n hn i hd hi cs hw
    obtain ⟨n, rfl⟩ : ∃ n', n = n' + 1 := ⟨n - 1, by omega⟩
    have hi' : i < l.length := by omega
    have hx := hl _ (show rP l i ∈ l by unfold rP; rw [rd_lt hi']; exact List.getElem_mem hi')
    obtain ⟨v0, h08, hA0, hL0, e0⟩ := ih n (by omega) (i + 1) (by omega) (by omega) _ (Was_new hW hC hl hi' hw)
    have hfew := hw.few
    have hk' := hk
    unfold K0 at hk'
    have rfP : ∀ (cs : List (List Pc)), spec_l07Few.fn n k ((m.1, m.2.1, ()), l, ((i + 1 : Nat) : Int), cs.map boxOf, ()) = spec_l07Few.fn n k (m, l, ((i + 1 : Nat) : Int), cs.map boxOf, ()) := fun _ => rfl
    have hrp : rdP (0, 0, 0, ()) l i = rP l i := rfl
    have hz : spec_l07With.f k (0, 0, [], ()) ((rP l i).1, (rP l i).2.1, (rP l i).2.2.1, ()) = some (boxOf [rP l i], ()) := with_eq k [] (rP l i) (by simp) (by simp [wS]) (by simp [wS]) hx
    have hfit0 := fit0 (l := cs.map boxOf) (by rw [List.length_map]; omega)
    have hfit1 := fit1 (boxOf [rP l i]) (l := cs.map boxOf) (by rw [List.length_map]; omega)
    have hfit1' : fitL (cs.map boxOf) [((boxOf [rP l i]).1, (boxOf [rP l i]).2.1, (boxOf [rP l i]).2.2.1, ())] = true := hfit1
    have hmap : (cs.map boxOf) ++ [((boxOf [rP l i]).1, (boxOf [rP l i]).2.1, (boxOf [rP l i]).2.2.1, ())] = (cs ++ [[rP l i]]).map boxOf := by rw [List.map_append]; rfl
    have key : ∃ v : Nat, v ≤ v0 ∧ Att m.1 m.2.1 l cs i v ∧ (∀ j, j < cs.length → takes m.1 m.2.1 (cs.getD j []) (rP l i) → Low m.1 m.2.1 l (cs.set j (cs.getD j [] ++ [rP l i])) (i + 1) v) ∧ spec_l07Few.fn (n + 1) k (m, l, (i : Int), cs.map boxOf, ()) = some ((v : Int), ()) := by
      rw [spec_l07Few.fn]
      unfold spec_l07Few.body
      dsimp only
      rw [leI_dc, ln_e, br_neg (by omega), inR_dc, br_pos (by omega), lett_e, natI_n, hrp, hfit0, br_t, app_e, List.nil_append, lett_e, hz, bnd_s]
      dsimp only
      rw [hfit1', br_t, app_e, hmap, lett_e, addI_nat (by omega), rfP, e0, bnd_s]
      dsimp only
      refine loop_msr (P := fun r => ∃ v : Nat, v ≤ v0 ∧ Att m.1 m.2.1 l cs i v ∧ (∀ j, j < cs.length → takes m.1 m.2.1 (cs.getD j []) (rP l i) → Low m.1 m.2.1 l (cs.set j (cs.getD j [] ++ [rP l i])) (i + 1) v) ∧ r = some ((v : Int), ())) (fun f c => ∃ (j cur : Nat), c = ((cur : Int), (j : Int), ()) ∧ j + f = cs.length ∧ cur ≤ v0 ∧ Att m.1 m.2.1 l cs i cur ∧ ∀ t, t < j → takes m.1 m.2.1 (cs.getD t []) (rP l i) → Low m.1 m.2.1 l (cs.set t (cs.getD t [] ++ [rP l i])) (i + 1) cur) ?_ (f := cs.length) ⟨0, v0, rfl, by omega, Nat.le_refl _, Att_new hi' hA0, fun t ht => by omega⟩ (by omega)
      rintro f c rec ⟨j, cur, rfl, hj, hcur, hA, hT⟩
      cases f with
      | zero =>
        left
        obtain rfl : j = cs.length := by omega
        exact ⟨cur, hcur, hA, hT, by simp (disch := omega) only [lett_e, bnd_s, bnd_chk, br_not, br_t, br_f, br_T, br_F, not_true_eq_false, not_false_eq_true, chk_T, chk_F, chk_eq, eqI_dc, ltI_dc, leI_dc, eqN_dc, notB_dc, andB_dc, andB_t, eqB_dc, notB_t, notB_f, inR_dc, upR_dc, ln_e, app_e, tk_e, dp_e, upd_e, repl_e, natI_n, br_pos, br_neg, addI_nat, addI_nn, subI_n1, subI_nn, fitN_T, List.length_set, List.length_append, List.length_cons, List.length_nil, List.length_map]⟩
      | succ f =>
        right
        have hjl : j < cs.length := by omega
        have hmem : cs.getD j [] ∈ cs := by rw [List.getD_eq_getElem?_getD, List.getElem?_eq_getElem hjl]; exact List.getElem_mem hjl
        have hall := hw.all _ hmem
        have hgb := getBox cs j hjl
        have ht := takes_eq k m (cs.getD j []) (rP l i) hall.2.1 (by omega) hx
        have hwi := with_eq k (cs.getD j []) (rP l i) (by omega) hall.2.1 (by omega) hx
        generalize hb : boxOf (cs.getD j []) = bx at *
        have ht' : spec_l07Takes.f k (m.1, m.2.1, ()) (bx.1, bx.2.1, bx.2.2.1, ()) ((rP l i).1, (rP l i).2.1, (rP l i).2.2.1, ()) = chkP (takes m.1 m.2.1 (cs.getD j []) (rP l i)) := ht
        have hwi' : spec_l07With.f k (bx.1, bx.2.1, bx.2.2.1, ()) ((rP l i).1, (rP l i).2.1, (rP l i).2.2.1, ()) = some (boxOf (cs.getD j [] ++ [rP l i]), ()) := hwi
        by_cases htk : takes m.1 m.2.1 (cs.getD j []) (rP l i)
        · obtain ⟨u, hu8, hAu, hLu, eu⟩ := ih n (by omega) (i + 1) (by omega) (by omega) _ (Was_set hl hi' hw j hjl htk)
          have hset : (cs.map boxOf).set j ((boxOf (cs.getD j [] ++ [rP l i])).1, (boxOf (cs.getD j [] ++ [rP l i])).2.1, (boxOf (cs.getD j [] ++ [rP l i])).2.2.1, ()) = (cs.set j (cs.getD j [] ++ [rP l i])).map boxOf := by
            rw [List.map_set]
          refine ⟨f, _, by omega, ⟨j + 1, min cur u, rfl, by omega, by omega, ?_, fun t ht htt => ?_⟩, ?_⟩
          · rcases Nat.le_total cur u with h | h
            · rw [Nat.min_eq_left h]; exact hA
            · rw [Nat.min_eq_right h]; exact Att_set hi' hjl hAu
          · by_cases hjt : t = j
            · subst hjt
              intro xs es g1 g2 g3 g4
              have := hLu xs es g1 g2 g3 g4
              omega
            · intro xs es g1 g2 g3 g4
              have := hT t (by omega) htt xs es g1 g2 g3 g4
              omega
          · have eu' : spec_l07Few.fn n k ((m.1, m.2.1, ()), l, ((i + 1 : Nat) : Int), (cs.set j (cs.getD j [] ++ [rP l i])).map boxOf, ()) = some ((u : Int), ()) := eu
            simp (disch := omega) only [lett_e, bnd_s, bnd_chk, br_not, br_t, br_f, br_T, br_F, not_true_eq_false, not_false_eq_true, chk_T, chk_F, chk_eq, eqI_dc, ltI_dc, leI_dc, eqN_dc, notB_dc, andB_dc, andB_t, eqB_dc, notB_t, notB_f, inR_dc, upR_dc, ln_e, app_e, tk_e, dp_e, upd_e, repl_e, natI_n, br_pos, br_neg, addI_nat, addI_nn, subI_n1, subI_nn, fitN_T, List.length_set, List.length_append, List.length_cons, List.length_nil, List.length_map, hgb, hrp, ht', chk_T, hfit0, hwi', List.nil_append, hset, eu', minI_nn]
        · refine ⟨f, _, by omega, ⟨j + 1, cur, rfl, by omega, hcur, hA, fun t ht htt => ?_⟩, ?_⟩
          · by_cases hjt : t = j
            · subst hjt; exact absurd htt htk
            · exact hT t (by omega) htt
          · simp (disch := omega) only [lett_e, bnd_s, bnd_chk, br_not, br_t, br_f, br_T, br_F, not_true_eq_false, not_false_eq_true, chk_T, chk_F, chk_eq, eqI_dc, ltI_dc, leI_dc, eqN_dc, notB_dc, andB_dc, andB_t, eqB_dc, notB_t, notB_f, inR_dc, upR_dc, ln_e, app_e, tk_e, dp_e, upd_e, repl_e, natI_n, br_pos, br_neg, addI_nat, addI_nn, subI_n1, subI_nn, fitN_T, List.length_set, List.length_append, List.length_cons, List.length_nil, List.length_map, hgb, hrp, ht']
    obtain ⟨v, hv, hAv, hLv, ev⟩ := key
    exact ⟨v, by omega, hAv, Low_step (fun x hx => (hl x hx).1) hw.ok hi' hL0 hv (fun j hj ht => hLv j hj ht), ev⟩
theorem spec_FewestBoxes_f {k : Nat} (hk : K0 ≤ k) (m : LimT) (l : List Pc) (hl : l.length ≤ 1048576) : ∃ r : Int, spec_FewestBoxes.f k m l = some (r, ()) ∧ (fewOk m l → ∃ v : Nat, OptC m.1 m.2.1 l v ∧ r = (v : Int)) ∧ (¬ fewOk m l → r = -1) := by
  have h1 : spec_LimitsOk.f k (m.1, m.2.1, ()) = chkP (LimP m) := spec_LimitsOk_m k m
  have h2 := spec_PiecesOk_f hk l
  unfold spec_FewestBoxes.f
  rw [h1, bnd_chk, br_not]
  by_cases hm : LimP m
  case neg => exact ⟨-1, by rw [br_neg hm], fun h => absurd h.1 hm, fun _ => rfl⟩
  rw [br_pos hm, h2, bnd_chk, br_not]
  by_cases hp : PiecesP l
  case neg => exact ⟨-1, by rw [br_neg hp], fun h => absurd h.2.1 hp, fun _ => rfl⟩
  rw [br_pos hp, ltI_dc, ln_e]
  by_cases h8 : l.length ≤ 8
  case neg => exact ⟨-1, by rw [br_pos (by omega)], fun h => absurd h.2.2 h8, fun _ => rfl⟩
  rw [br_neg (by omega)]
  have hk' := hk
  unfold K0 at hk'
  obtain ⟨v, _, hA, hL, ev⟩ := few_search hk m hm.1.1 hm.2.1 l h8 (fun x hx => by have := hp.2.1 x hx; exact ⟨by have := this.2.1; omega, this.2.1.2⟩) l.length k (by omega) 0 (by omega) (by omega) [] ⟨fun c hc => absurd hc (by simp), by simp, fun c hc => absurd hc (by simp)⟩
  have ev' : spec_l07Few.f k (m.1, m.2.1, ()) l 0 [] = some ((v : Int), ()) := ev
  refine ⟨(v : Int), by rw [ev', bnd_s], fun _ => ⟨v, ⟨?_, fun bs hbs => ?_⟩, rfl⟩, fun h => absurd ⟨hm, hp, h8⟩ h⟩
  · obtain ⟨bs, h1, h2, h3⟩ := hA
    exact ⟨bs, ⟨by simpa using h2, h1⟩, h3⟩
  · have := hL [] bs rfl (fun x hx => absurd hx (by simp)) hbs.2 (by simpa using hbs.1)
    simpa using this
end Go.Proofs.Ytcfbjloblbhdhaa.Eng
