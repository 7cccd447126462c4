/- What the reference draws: each draw ends, within bounds. No condition. -/
import Derived.Test.YtcfbjloblbhdhaaPA
import Derived.Test.YtcfbjloblbhdhaaDFnAdded
import Derived.Test.YtcfbjloblbhdhaaDFnPacked
namespace Go.Proofs.Ytcfbjloblbhdhaa.Eng
set_option linter.unusedVariables false
set_option linter.unusedSimpArgs false
abbrev Cur := List (Int × Unit) × Int × Int × Unit
/-- Where the cursor may stand. -/
def Cok (c : Cur) : Prop := c.1.length ≤ 1048576 ∧ 0 ≤ c.2.1 ∧ c.2.1 ≤ c.1.length
theorem and_255 (y : Int) : 0 ≤ andI .i64 y 255 ∧ andI .i64 y 255 ≤ 255 := by
  have h3 : (BitVec.ofInt 64 y &&& BitVec.ofInt 64 255).toNat ≤ 255 := by
    rw [BitVec.toNat_and]
    exact Nat.and_le_right
  have e : andI .i64 y 255 = IntKind.i64.wrap (((BitVec.ofInt 64 y &&& BitVec.ofInt 64 255).toNat : Nat) : Int) := rfl
  rw [e]
  generalize (BitVec.ofInt 64 y &&& BitVec.ofInt 64 255).toNat = n at h3
  rw [wrap_id (by omega)]; omega
theorem d_byte (k : Nat) {c : Cur} (hc : Cok c) : ∃ x c', spec_l01Byte.f k c = some (x, c', ()) ∧ (0 ≤ x ∧ x ≤ 255) ∧ Cok c' := by
  obtain ⟨h0, h1, h2⟩ := hc
  unfold spec_l01Byte.f
  by_cases h : c.2.1 < (c.1.length : Int)
  · refine ⟨andI .i64 ?X 255, (c.1, c.2.1 + 1, ?H, ()), ?e, and_255 _, h0, ?g1, ?g2⟩
    case e => simp (disch := omega) only [lett_e, bnd_s, bnd_chk, br_not, br_t, br_f, br_T, br_F, not_true_eq_false, not_false_eq_true, chk_T, chk_F, chk_eq, eqI_dc, ltI_dc, leI_dc, eqN_dc, notB_dc, andB_dc, andB_t, eqB_dc, notB_t, notB_f, inR_dc, upR_dc, ln_e, app_e, tk_e, dp_e, upd_e, repl_e, natI_n, br_pos, br_neg, addI_n, fitN_T, addI_id (x := c.2.1) (y := 1)] <;> rfl
    case g1 => dsimp only; omega
    case g2 => dsimp only; omega
  · refine ⟨andI .i64 ?X2 255, (c.1, c.2.1, ?H2, ()), ?e2, and_255 _, h0, h1, h2⟩
    case e2 => simp (disch := omega) only [lett_e, bnd_s, bnd_chk, br_not, br_t, br_f, br_T, br_F, not_true_eq_false, not_false_eq_true, chk_T, chk_F, chk_eq, eqI_dc, ltI_dc, leI_dc, eqN_dc, notB_dc, andB_dc, andB_t, eqB_dc, notB_t, notB_f, inR_dc, upR_dc, ln_e, app_e, tk_e, dp_e, upd_e, repl_e, natI_n, br_pos, br_neg, addI_n, fitN_T]; rfl
theorem tmod_in (x n : Int) (hx : 0 ≤ x) (hn : 0 < n) : 0 ≤ Int.tmod x n ∧ Int.tmod x n < n := ⟨Int.tmod_nonneg n hx, Int.tmod_lt_of_pos x hn⟩
theorem mulI_id' {x y : Int} (h : -9223372036854775808 ≤ x * y ∧ x * y < 9223372036854775808) : mulI .i64 x y = x * y := wrap_id h
theorem d_below (k : Nat) {c : Cur} (n : Int) (hc : Cok c) : ∃ x c', spec_l01Below.f k c n = some (x, c', ()) ∧ 0 ≤ x ∧ (0 < n → x < n) ∧ (n ≤ 0 → x = 0) ∧ Cok c' := by
  unfold spec_l01Below.f
  by_cases h : n ≤ 0
  · exact ⟨0, c, by simp (disch := omega) only [lett_e, bnd_s, bnd_chk, br_not, br_t, br_f, br_T, br_F, not_true_eq_false, not_false_eq_true, chk_T, chk_F, chk_eq, eqI_dc, ltI_dc, leI_dc, eqN_dc, notB_dc, andB_dc, andB_t, eqB_dc, notB_t, notB_f, inR_dc, upR_dc, ln_e, app_e, tk_e, dp_e, upd_e, repl_e, natI_n, br_pos, br_neg, addI_n, fitN_T], by omega, fun z => by omega, fun _ => rfl, hc⟩
  · by_cases h2 : n ≤ 256
    · obtain ⟨x, c', e, hx, hc'⟩ := d_byte k hc
      have e' : spec_l01Byte.f k (c.1, c.2.1, c.2.2.1, ()) = some (x, c', ()) := e
      have := tmod_in x n hx.1 (by omega)
      exact ⟨x.tmod n, c', by simp (disch := omega) only [lett_e, bnd_s, bnd_chk, br_not, br_t, br_f, br_T, br_F, not_true_eq_false, not_false_eq_true, chk_T, chk_F, chk_eq, eqI_dc, ltI_dc, leI_dc, eqN_dc, notB_dc, andB_dc, andB_t, eqB_dc, notB_t, notB_f, inR_dc, upR_dc, ln_e, app_e, tk_e, dp_e, upd_e, repl_e, natI_n, br_pos, br_neg, addI_n, fitN_T, e'] <;> rfl, this.1, fun _ => this.2, fun z => by omega, hc'⟩
    · obtain ⟨x1, c1, e1, a1, b1⟩ := d_byte k hc
      obtain ⟨x2, c2, e2, a2, b2⟩ := d_byte k b1
      obtain ⟨x3, c3, e3, a3, b3⟩ := d_byte k b2
      obtain ⟨x4, c4, e4, a4, b4⟩ := d_byte k b3
      have e1' : spec_l01Byte.f k (c.1, c.2.1, c.2.2.1, ()) = some (x1, c1, ()) := e1
      have e2' : spec_l01Byte.f k (c1.1, c1.2.1, c1.2.2.1, ()) = some (x2, c2, ()) := e2
      have e3' : spec_l01Byte.f k (c2.1, c2.2.1, c2.2.2.1, ()) = some (x3, c3, ()) := e3
      have e4' : spec_l01Byte.f k (c3.1, c3.2.1, c3.2.2.1, ()) = some (x4, c4, ()) := e4
      have := tmod_in (x1 * 16777216 + x2 * 65536 + x3 * 256 + x4) n (by omega) (by omega)
      exact ⟨_, c4, by simp (disch := omega) only [lett_e, bnd_s, bnd_chk, br_not, br_t, br_f, br_T, br_F, not_true_eq_false, not_false_eq_true, chk_T, chk_F, chk_eq, eqI_dc, ltI_dc, leI_dc, eqN_dc, notB_dc, andB_dc, andB_t, eqB_dc, notB_t, notB_f, inR_dc, upR_dc, ln_e, app_e, tk_e, dp_e, upd_e, repl_e, natI_n, br_pos, br_neg, addI_n, fitN_T, e1', e2', e3', e4', mulI_id', addI_id] <;> rfl, this.1, fun _ => this.2, fun z => by omega, b4⟩
theorem d_once (k : Nat) {c : Cur} (n : Int) (hc : Cok c) : ∃ x c', spec_l01Once.f k c n = some (x, c', ()) ∧ Cok c' := by
  obtain ⟨x, c', e, _, _, _, h⟩ := d_below k n hc
  have e' : spec_l01Below.f k (c.1, c.2.1, c.2.2.1, ()) n = some (x, c', ()) := e
  unfold spec_l01Once.f
  exact ⟨_, c', by simp (disch := omega) only [lett_e, bnd_s, bnd_chk, br_not, br_t, br_f, br_T, br_F, not_true_eq_false, not_false_eq_true, chk_T, chk_F, chk_eq, eqI_dc, ltI_dc, leI_dc, eqN_dc, notB_dc, andB_dc, andB_t, eqB_dc, notB_t, notB_f, inR_dc, upR_dc, ln_e, app_e, tk_e, dp_e, upd_e, repl_e, natI_n, br_pos, br_neg, addI_n, fitN_T, e'] <;> rfl, h⟩
theorem d_pick (k : Nat) {c : Cur} (l : List (Int × Unit)) (hl : 0 < l.length) (hc : Cok c) : ∃ x c', spec_l01PickInt.f k c l = some (x, c', ()) ∧ (x, ()) ∈ l ∧ Cok c' := by
  obtain ⟨x, c', e, h0, h1, _, h⟩ := d_below k (l.length : Int) hc
  have h1 := h1 (by omega)
  have e' : spec_l01Below.f k (c.1, c.2.1, c.2.2.1, ()) (l.length : Int) = some (x, c', ()) := e
  obtain ⟨n, rfl⟩ := Int.eq_ofNat_of_zero_le h0
  have hn : n < l.length := by omega
  have hm : rdP (0, ()) l n ∈ l := by rw [rd_lt hn]; exact List.getElem_mem hn
  unfold spec_l01PickInt.f
  exact ⟨_, c', by simp (disch := omega) only [lett_e, bnd_s, bnd_chk, br_not, br_t, br_f, br_T, br_F, not_true_eq_false, not_false_eq_true, chk_T, chk_F, chk_eq, eqI_dc, ltI_dc, leI_dc, eqN_dc, notB_dc, andB_dc, andB_t, eqB_dc, notB_t, notB_f, inR_dc, upR_dc, ln_e, app_e, tk_e, dp_e, upd_e, repl_e, natI_n, br_pos, br_neg, addI_n, fitN_T, e'] <;> rfl, hm, h⟩
theorem d_new {k : Nat} (hk : K0 ≤ k) (b : List (Int × Unit)) (hb : b.length ≤ 1048576) : ∃ c : Cur, spec_l01New.f k b = some (c, ()) ∧ Cok c := by
  unfold K0 at hk
  unfold spec_l01New.f
  simp only [lett_e]
  refine loop_msr (P := fun r => ∃ c : Cur, r = some (c, ()) ∧ Cok c) (fun f c => ∃ (h : Int) (i : Nat), c = (h, (i : Int), ()) ∧ i + f = b.length) ?_ (f := b.length) ⟨_, 0, rfl, by omega⟩ (by omega)
  rintro f c rec ⟨h, i, rfl, hi⟩
  by_cases h1 : i < b.length
  · by_cases h2 : i < 4000
    · exact .inr ⟨f - 1, _, by omega, ⟨_, i + 1, rfl, by omega⟩, by simp (disch := omega) only [lett_e, bnd_s, bnd_chk, br_not, br_t, br_f, br_T, br_F, not_true_eq_false, not_false_eq_true, chk_T, chk_F, chk_eq, eqI_dc, ltI_dc, leI_dc, eqN_dc, notB_dc, andB_dc, andB_t, eqB_dc, notB_t, notB_f, inR_dc, upR_dc, ln_e, app_e, tk_e, dp_e, upd_e, repl_e, natI_n, br_pos, br_neg, addI_nat, addI_nn, subI_n1, subI_nn, fitN_T, List.length_set, List.length_append, List.length_cons, List.length_nil]; rfl⟩
    · exact .inl ⟨(b, 0, h, ()), by simp (disch := omega) only [lett_e, bnd_s, bnd_chk, br_not, br_t, br_f, br_T, br_F, not_true_eq_false, not_false_eq_true, chk_T, chk_F, chk_eq, eqI_dc, ltI_dc, leI_dc, eqN_dc, notB_dc, andB_dc, andB_t, eqB_dc, notB_t, notB_f, inR_dc, upR_dc, ln_e, app_e, tk_e, dp_e, upd_e, repl_e, natI_n, br_pos, br_neg, addI_nat, addI_nn, subI_n1, subI_nn, fitN_T, List.length_set, List.length_append, List.length_cons, List.length_nil], hb, by dsimp only; omega, by dsimp only; omega⟩
  · exact .inl ⟨(b, 0, h, ()), by simp (disch := omega) only [lett_e, bnd_s, bnd_chk, br_not, br_t, br_f, br_T, br_F, not_true_eq_false, not_false_eq_true, chk_T, chk_F, chk_eq, eqI_dc, ltI_dc, leI_dc, eqN_dc, notB_dc, andB_dc, andB_t, eqB_dc, notB_t, notB_f, inR_dc, upR_dc, ln_e, app_e, tk_e, dp_e, upd_e, repl_e, natI_n, br_pos, br_neg, addI_nat, addI_nn, subI_n1, subI_nn, fitN_T, List.length_set, List.length_append, List.length_cons, List.length_nil], hb, by dsimp only; omega, by dsimp only; omega⟩
theorem d_limits (k : Nat) {c : Cur} (hc : Cok c) : ∃ m c', spec_l07Limits.f k c = some (m, c', ()) ∧ ((60 ≤ m.1 ∧ m.1 ≤ 2000) ∧ 1 ≤ m.2.1 ∧ m.2.1 ≤ 40) ∧ Cok c' := by
  obtain ⟨x1, c1, e1, a1, h1⟩ := d_pick k [(60, ()), (61, ()), (75, ()), (90, ()), (200, ())] (by simp) hc
  obtain ⟨x2, c2, e2, a2, b2, _, h2⟩ := d_below k 5 h1
  have b2 := b2 (by omega)
  have e1' : spec_l01PickInt.f k (c.1, c.2.1, c.2.2.1, ()) [(60, ()), (61, ()), (75, ()), (90, ()), (200, ())] = some (x1, c1, ()) := e1
  have e2' : spec_l01Below.f k (c1.1, c1.2.1, c1.2.2.1, ()) 5 = some (x2, c2, ()) := e2
  have hx : x1 = 60 ∨ x1 = 61 ∨ x1 = 75 ∨ x1 = 90 ∨ x1 = 200 := by simp at a1; omega
  unfold spec_l07Limits.f
  exact ⟨(x1, 1 + x2, ()), c2, by simp (disch := omega) only [lett_e, bnd_s, bnd_chk, br_not, br_t, br_f, br_T, br_F, not_true_eq_false, not_false_eq_true, chk_T, chk_F, chk_eq, eqI_dc, ltI_dc, leI_dc, eqN_dc, notB_dc, andB_dc, andB_t, eqB_dc, notB_t, notB_f, inR_dc, upR_dc, ln_e, app_e, tk_e, dp_e, upd_e, repl_e, natI_n, br_pos, br_neg, addI_n, fitN_T, e1', e2', addI_id] <;> rfl, by dsimp only; omega, h2⟩
end Go.Proofs.Ytcfbjloblbhdhaa.Eng
