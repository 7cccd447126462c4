/- What the reference draws of notes. No condition. -/
import Derived.Test.YtcfbjloblbhdhaaPQdraw
import Derived.Test.YtcfbjloblbhdhaaPMerge
import Derived.Test.YtcfbjloblbhdhaaDFnAdded
import Derived.Test.YtcfbjloblbhdhaaDFnMerged
namespace Go.Proofs.Ytcfbjloblbhdhaa.Eng
set_option linter.unusedVariables false
set_option linter.unusedSimpArgs false
theorem d_note (k : Nat) {c : Cur} (hc : Cok c) : ∃ n c', spec_l08Note.f k c = some (n, c', ()) ∧ NoteP n ∧ n.1 ≤ 24 ∧ Cok c' := by
  obtain ⟨x1, c1, e1, a1, b1, _, h1⟩ := d_below k 24 hc
  obtain ⟨x2, c2, e2, a2, h2⟩ := d_pick k [(1, ()), (1, ()), (1, ()), (2, ()), (2, ()), (3, ()), (4, ())] (by simp) h1
  obtain ⟨x3, c3, e3, a3, b3, _, h3⟩ := d_below k 3 h2
  obtain ⟨x4, c4, e4, a4, b4, _, h4⟩ := d_below k 4 h3
  obtain ⟨x5, c5, e5, a5, b5, _, h5⟩ := d_below k 6 h3
  obtain ⟨x6, c6, e6, a6, b6, _, h6⟩ := d_below k 6 h4
  have b1 := b1 (by omega); have b3 := b3 (by omega); have b4 := b4 (by omega); have b5 := b5 (by omega); have b6 := b6 (by omega)
  have e1' : spec_l01Below.f k (c.1, c.2.1, c.2.2.1, ()) 24 = some (x1, c1, ()) := e1
  have e2' : spec_l01PickInt.f k (c1.1, c1.2.1, c1.2.2.1, ()) [(1, ()), (1, ()), (1, ()), (2, ()), (2, ()), (3, ()), (4, ())] = some (x2, c2, ()) := e2
  have e3' : spec_l01Below.f k (c2.1, c2.2.1, c2.2.2.1, ()) 3 = some (x3, c3, ()) := e3
  have e4' : spec_l01Below.f k (c3.1, c3.2.1, c3.2.2.1, ()) 4 = some (x4, c4, ()) := e4
  have e5' : spec_l01Below.f k (c3.1, c3.2.1, c3.2.2.1, ()) 6 = some (x5, c5, ()) := e5
  have e6' : spec_l01Below.f k (c4.1, c4.2.1, c4.2.2.1, ()) 6 = some (x6, c6, ()) := e6
  have hx2 : x2 = 1 ∨ x2 = 2 ∨ x2 = 3 ∨ x2 = 4 := by simp at a2; omega
  unfold spec_l08Note.f
  by_cases g4 : x2 = 4
  · exact ⟨(1 + x1, x2, 0, 1 + x5, 1 + x3, ()), c5, by simp (disch := omega) only [lett_e, bnd_s, bnd_chk, br_not, br_t, br_f, br_T, br_F, not_true_eq_false, not_false_eq_true, chk_T, chk_F, chk_eq, eqI_dc, ltI_dc, leI_dc, eqN_dc, notB_dc, andB_dc, andB_t, eqB_dc, notB_t, notB_f, inR_dc, upR_dc, ln_e, app_e, tk_e, dp_e, upd_e, repl_e, natI_n, br_pos, br_neg, addI_n, fitN_T, e1', e2', e3', e5', addI_id] <;> rfl, by unfold NoteP; simp [g4]; omega, by dsimp only; omega, h5⟩
  · by_cases g1 : x2 = 1
    · exact ⟨(1 + x1, x2, 1 + x4, 1 + x6, 1 + x3, ()), c6, by simp (disch := omega) only [lett_e, bnd_s, bnd_chk, br_not, br_t, br_f, br_T, br_F, not_true_eq_false, not_false_eq_true, chk_T, chk_F, chk_eq, eqI_dc, ltI_dc, leI_dc, eqN_dc, notB_dc, andB_dc, andB_t, eqB_dc, notB_t, notB_f, inR_dc, upR_dc, ln_e, app_e, tk_e, dp_e, upd_e, repl_e, natI_n, br_pos, br_neg, addI_n, fitN_T, e1', e2', e3', e4', e6', addI_id] <;> rfl, by unfold NoteP; simp [g1]; omega, by dsimp only; omega, h6⟩
    · exact ⟨(1 + x1, x2, 1 + x4, 0, 1 + x3, ()), c4, by simp (disch := omega) only [lett_e, bnd_s, bnd_chk, br_not, br_t, br_f, br_T, br_F, not_true_eq_false, not_false_eq_true, chk_T, chk_F, chk_eq, eqI_dc, ltI_dc, leI_dc, eqN_dc, notB_dc, andB_dc, andB_t, eqB_dc, notB_t, notB_f, inR_dc, upR_dc, ln_e, app_e, tk_e, dp_e, upd_e, repl_e, natI_n, br_pos, br_neg, addI_n, fitN_T, e1', e2', e3', e4', addI_id] <;> rfl, by unfold NoteP; simp [g1, g4]; omega, by dsimp only; omega, h4⟩
theorem d_anynote (k : Nat) {c : Cur} (hc : Cok c) : ∃ n c', spec_l08AnyNote.f k c = some (n, c', ()) ∧ Cok c' := by
  obtain ⟨n, c1, e1, _, _, h1⟩ := d_note k hc
  obtain ⟨x, c2, e2, _, _, _, h2⟩ := d_below k 20 h1
  have pk : ∀ l : List (Int × Unit), 0 < l.length → ∃ y c', spec_l01PickInt.f k (c2.1, c2.2.1, c2.2.2.1, ()) l = some (y, c', ()) ∧ Cok c' := fun l hl => by
    obtain ⟨y, c', e, _, h⟩ := d_pick k l hl h2
    exact ⟨y, c', e, h⟩
  have e1' : spec_l08Note.f k (c.1, c.2.1, c.2.2.1, ()) = some (n, c1, ()) := e1
  have e2' : spec_l01Below.f k (c1.1, c1.2.1, c1.2.2.1, ()) 20 = some (x, c2, ()) := e2
  obtain ⟨y1, d1, g1, k1⟩ := pk [(0, ()), (10000, ()), (10001, ()), (-1, ())] (by simp)
  obtain ⟨y2, d2, g2, k2⟩ := pk [(0, ()), (5, ()), (2, ()), (4, ())] (by simp)
  obtain ⟨y3, d3, g3, k3⟩ := pk [(0, ()), (1000, ()), (1001, ()), (3, ())] (by simp)
  obtain ⟨y4, d4, g4, k4⟩ := pk [(0, ()), (1000, ()), (1001, ()), (2, ())] (by simp)
  obtain ⟨y5, d5, g5, k5⟩ := pk [(0, ()), (20, ()), (21, ())] (by simp)
  unfold spec_l08AnyNote.f
  by_cases q0 : x = 0
  · exact ⟨_, d1, by simp (disch := omega) only [lett_e, bnd_s, bnd_chk, br_not, br_t, br_f, br_T, br_F, not_true_eq_false, not_false_eq_true, chk_T, chk_F, chk_eq, eqI_dc, ltI_dc, leI_dc, eqN_dc, notB_dc, andB_dc, andB_t, eqB_dc, notB_t, notB_f, inR_dc, upR_dc, ln_e, app_e, tk_e, dp_e, upd_e, repl_e, natI_n, br_pos, br_neg, addI_n, fitN_T, e1', e2', g1] <;> rfl, k1⟩
  by_cases q1 : x = 1
  · exact ⟨_, d2, by simp (disch := omega) only [lett_e, bnd_s, bnd_chk, br_not, br_t, br_f, br_T, br_F, not_true_eq_false, not_false_eq_true, chk_T, chk_F, chk_eq, eqI_dc, ltI_dc, leI_dc, eqN_dc, notB_dc, andB_dc, andB_t, eqB_dc, notB_t, notB_f, inR_dc, upR_dc, ln_e, app_e, tk_e, dp_e, upd_e, repl_e, natI_n, br_pos, br_neg, addI_n, fitN_T, e1', e2', g2] <;> rfl, k2⟩
  by_cases q2 : x = 2
  · exact ⟨_, d3, by simp (disch := omega) only [lett_e, bnd_s, bnd_chk, br_not, br_t, br_f, br_T, br_F, not_true_eq_false, not_false_eq_true, chk_T, chk_F, chk_eq, eqI_dc, ltI_dc, leI_dc, eqN_dc, notB_dc, andB_dc, andB_t, eqB_dc, notB_t, notB_f, inR_dc, upR_dc, ln_e, app_e, tk_e, dp_e, upd_e, repl_e, natI_n, br_pos, br_neg, addI_n, fitN_T, e1', e2', g3] <;> rfl, k3⟩
  by_cases q3 : x = 3
  · exact ⟨_, d4, by simp (disch := omega) only [lett_e, bnd_s, bnd_chk, br_not, br_t, br_f, br_T, br_F, not_true_eq_false, not_false_eq_true, chk_T, chk_F, chk_eq, eqI_dc, ltI_dc, leI_dc, eqN_dc, notB_dc, andB_dc, andB_t, eqB_dc, notB_t, notB_f, inR_dc, upR_dc, ln_e, app_e, tk_e, dp_e, upd_e, repl_e, natI_n, br_pos, br_neg, addI_n, fitN_T, e1', e2', g4] <;> rfl, k4⟩
  by_cases q4 : x = 4
  · exact ⟨_, d5, by simp (disch := omega) only [lett_e, bnd_s, bnd_chk, br_not, br_t, br_f, br_T, br_F, not_true_eq_false, not_false_eq_true, chk_T, chk_F, chk_eq, eqI_dc, ltI_dc, leI_dc, eqN_dc, notB_dc, andB_dc, andB_t, eqB_dc, notB_t, notB_f, inR_dc, upR_dc, ln_e, app_e, tk_e, dp_e, upd_e, repl_e, natI_n, br_pos, br_neg, addI_n, fitN_T, e1', e2', g5] <;> rfl, k5⟩
  · exact ⟨_, c2, by simp (disch := omega) only [lett_e, bnd_s, bnd_chk, br_not, br_t, br_f, br_T, br_F, not_true_eq_false, not_false_eq_true, chk_T, chk_F, chk_eq, eqI_dc, ltI_dc, leI_dc, eqN_dc, notB_dc, andB_dc, andB_t, eqB_dc, notB_t, notB_f, inR_dc, upR_dc, ln_e, app_e, tk_e, dp_e, upd_e, repl_e, natI_n, br_pos, br_neg, addI_n, fitN_T, e1', e2'] <;> rfl, h2⟩
theorem d_notes {k : Nat} (hk : K0 ≤ k) {c : Cur} (hc : Cok c) : ∃ l c', spec_l08Notes.f k c = some (l, c', ()) ∧ NotesP l ∧ l.length ≤ 13 ∧ Cok c' := by
  obtain ⟨x, c1, e1, a1, b1, _, h1⟩ := d_below k 14 hc
  have b1 := b1 (by omega)
  have e1' : spec_l01Below.f k (c.1, c.2.1, c.2.2.1, ()) 14 = some (x, c1, ()) := e1
  obtain ⟨n, rfl⟩ := Int.eq_ofNat_of_zero_le a1
  unfold spec_l08Notes.f
  rw [e1', bnd_s]
  simp only [lett_e]
  have hk' := hk
  unfold K0 at hk'
  refine loop_msr (P := fun r => ∃ (l : List NoteT) (c' : Cur), r = some (l, c', ()) ∧ NotesP l ∧ l.length ≤ 13 ∧ Cok c') (fun f s => ∃ (c : Cur) (l : List NoteT), s = (c.1, c.2.1, c.2.2.1, l, (f : Int), ()) ∧ Cok c ∧ NotesP l ∧ l.length + f ≤ 13) ?_ (f := n) ⟨c1, [], rfl, h1, notesP_nil, by simp; omega⟩ (by omega)
  rintro f s rec ⟨c, l, rfl, hc, hl, hn⟩
  cases f with
  | zero => exact .inl ⟨l, c, by simp (disch := omega) only [lett_e, bnd_s, bnd_chk, br_not, br_t, br_f, br_T, br_F, not_true_eq_false, not_false_eq_true, chk_T, chk_F, chk_eq, eqI_dc, ltI_dc, leI_dc, eqN_dc, notB_dc, andB_dc, andB_t, eqB_dc, notB_t, notB_f, inR_dc, upR_dc, ln_e, app_e, tk_e, dp_e, upd_e, repl_e, natI_n, br_pos, br_neg, addI_n, fitN_T] <;> rfl, hl, by omega, hc⟩
  | succ f =>
    obtain ⟨nt, c2, e2, p2, _, h2⟩ := d_note k hc
    have e2' : spec_l08Note.f k (c.1, c.2.1, c.2.2.1, ()) = some (nt, c2, ()) := e2
    have e3 := spec_l08At_f hk l nt.1 (by omega)
    have e4 : spec_l08With.f k l (nt.1, nt.2.1, nt.2.2.1, nt.2.2.2.1, nt.2.2.2.2.1, ()) = some (insN nt l, ()) := spec_l08With_f hk l nt (by omega)
    have hs : subI .i64 ((f + 1 : Nat) : Int) 1 = (f : Int) := subI_nat (by omega)
    by_cases hz : (atN nt.1 l).1 = 0
    · exact .inr ⟨f, _, by omega, ⟨c2, insN nt l, rfl, h2, insN_ok hl p2 hz (by omega), by rw [insN_len]; omega⟩, by simp (disch := omega) only [lett_e, bnd_s, bnd_chk, br_not, br_t, br_f, br_T, br_F, not_true_eq_false, not_false_eq_true, chk_T, chk_F, chk_eq, eqI_dc, ltI_dc, leI_dc, eqN_dc, notB_dc, andB_dc, andB_t, eqB_dc, notB_t, notB_f, inR_dc, upR_dc, ln_e, app_e, tk_e, dp_e, upd_e, repl_e, natI_n, br_pos, br_neg, addI_n, fitN_T, e2', e3, e4, hs]⟩
    · exact .inr ⟨f, _, by omega, ⟨c2, l, rfl, h2, hl, by omega⟩, by simp (disch := omega) only [lett_e, bnd_s, bnd_chk, br_not, br_t, br_f, br_T, br_F, not_true_eq_false, not_false_eq_true, chk_T, chk_F, chk_eq, eqI_dc, ltI_dc, leI_dc, eqN_dc, notB_dc, andB_dc, andB_t, eqB_dc, notB_t, notB_f, inR_dc, upR_dc, ln_e, app_e, tk_e, dp_e, upd_e, repl_e, natI_n, br_pos, br_neg, addI_n, fitN_T, e2', e3, hs]⟩
theorem d_any {k : Nat} (hk : K0 ≤ k) {c : Cur} (hc : Cok c) : ∃ l c', spec_l08Any.f k c = some (l, c', ()) ∧ l.length ≤ 100 ∧ Cok c' := by
  obtain ⟨l, c1, e1, _, hl, h1⟩ := d_notes hk hc
  obtain ⟨x, c2, e2, _, _, _, h2⟩ := d_below k 18 h1
  have e1' : spec_l08Notes.f k (c.1, c.2.1, c.2.2.1, ()) = some (l, c1, ()) := e1
  have e2' : spec_l01Below.f k (c1.1, c1.2.1, c1.2.2.1, ()) 18 = some (x, c2, ()) := e2
  have hk' := hk
  unfold K0 at hk'
  unfold spec_l08Any.f
  by_cases q0 : x = 0
  · by_cases ql : 0 < l.length
    · obtain ⟨y, c3, e3, a3, b3, _, h3⟩ := d_below k (l.length : Int) h2
      have b3 := b3 (by omega)
      obtain ⟨nt, c4, e4, h4⟩ := d_anynote k h3
      have e3' : spec_l01Below.f k (c2.1, c2.2.1, c2.2.2.1, ()) (l.length : Int) = some (y, c3, ()) := e3
      have e4' : spec_l08AnyNote.f k (c3.1, c3.2.1, c3.2.2.1, ()) = some (nt, c4, ()) := e4
      exact ⟨_, c4, by simp (disch := omega) only [lett_e, bnd_s, bnd_chk, br_not, br_t, br_f, br_T, br_F, not_true_eq_false, not_false_eq_true, chk_T, chk_F, chk_eq, eqI_dc, ltI_dc, leI_dc, eqN_dc, notB_dc, andB_dc, andB_t, eqB_dc, notB_t, notB_f, inR_dc, upR_dc, ln_e, app_e, tk_e, dp_e, upd_e, repl_e, natI_n, br_pos, br_neg, addI_n, fitN_T, e1', e2', e3', e4'] <;> rfl, by simp; omega, h4⟩
    · exact ⟨l, c2, by simp (disch := omega) only [lett_e, bnd_s, bnd_chk, br_not, br_t, br_f, br_T, br_F, not_true_eq_false, not_false_eq_true, chk_T, chk_F, chk_eq, eqI_dc, ltI_dc, leI_dc, eqN_dc, notB_dc, andB_dc, andB_t, eqB_dc, notB_t, notB_f, inR_dc, upR_dc, ln_e, app_e, tk_e, dp_e, upd_e, repl_e, natI_n, br_pos, br_neg, addI_n, fitN_T, e1', e2'] <;> rfl, by omega, h2⟩
  by_cases q1 : x = 1
  · by_cases ql : 1 < l.length
    · exact ⟨_, c2, by simp (disch := omega) only [lett_e, bnd_s, bnd_chk, br_not, br_t, br_f, br_T, br_F, not_true_eq_false, not_false_eq_true, chk_T, chk_F, chk_eq, eqI_dc, ltI_dc, leI_dc, eqN_dc, notB_dc, andB_dc, andB_t, eqB_dc, notB_t, notB_f, inR_dc, upR_dc, ln_e, app_e, tk_e, dp_e, upd_e, repl_e, natI_n, br_pos, br_neg, addI_n, fitN_T, e1', e2'] <;> rfl, by simp; omega, h2⟩
    · exact ⟨l, c2, by simp (disch := omega) only [lett_e, bnd_s, bnd_chk, br_not, br_t, br_f, br_T, br_F, not_true_eq_false, not_false_eq_true, chk_T, chk_F, chk_eq, eqI_dc, ltI_dc, leI_dc, eqN_dc, notB_dc, andB_dc, andB_t, eqB_dc, notB_t, notB_f, inR_dc, upR_dc, ln_e, app_e, tk_e, dp_e, upd_e, repl_e, natI_n, br_pos, br_neg, addI_n, fitN_T, e1', e2'] <;> rfl, by omega, h2⟩
  by_cases q2 : x = 2
  · simp (disch := omega) only [lett_e, bnd_s, bnd_chk, br_not, br_t, br_f, br_T, br_F, not_true_eq_false, not_false_eq_true, chk_T, chk_F, chk_eq, eqI_dc, ltI_dc, leI_dc, eqN_dc, notB_dc, andB_dc, andB_t, eqB_dc, notB_t, notB_f, inR_dc, upR_dc, ln_e, app_e, tk_e, dp_e, upd_e, repl_e, natI_n, br_pos, br_neg, addI_n, fitN_T, e1', e2']
    refine loop_msr (P := fun r => ∃ (l : List NoteT) (c' : Cur), r = some (l, c', ()) ∧ l.length ≤ 100 ∧ Cok c') (fun f s => ∃ (c : Cur) (l : List NoteT), s = (c.1, c.2.1, c.2.2.1, l, ()) ∧ Cok c ∧ l.length ≤ 61 ∧ f = 61 - l.length) ?_ (f := 61 - l.length) ⟨c2, l, rfl, h2, by omega, rfl⟩ (by omega)
    rintro f s rec ⟨c, l, rfl, hc, hl, rfl⟩
    obtain ⟨y, c3, e3, a3, b3, _, h3⟩ := d_below k 2 hc
    have b3 := b3 (by omega)
    have e3' : spec_l01Below.f k (c.1, c.2.1, c.2.2.1, ()) 2 = some (y, c3, ()) := e3
    by_cases q : (l.length : Int) < 60 + y
    · have hf := fit1 (addI .i64 30 (l.length : Int), 2, 1, 0, 1, ()) (l := l) (by omega)
      exact .inr ⟨61 - (l.length + 1), _, by omega, ⟨c3, l ++ [(addI .i64 30 (l.length : Int), 2, 1, 0, 1, ())], rfl, h3, by simp; omega, by simp⟩, by simp (disch := omega) only [lett_e, bnd_s, bnd_chk, br_not, br_t, br_f, br_T, br_F, not_true_eq_false, not_false_eq_true, chk_T, chk_F, chk_eq, eqI_dc, ltI_dc, leI_dc, eqN_dc, notB_dc, andB_dc, andB_t, eqB_dc, notB_t, notB_f, inR_dc, upR_dc, ln_e, app_e, tk_e, dp_e, upd_e, repl_e, natI_n, br_pos, br_neg, addI_n, fitN_T, e3', addI_id (x := 60), hf]⟩
    · exact .inl ⟨l, c3, by simp (disch := omega) only [lett_e, bnd_s, bnd_chk, br_not, br_t, br_f, br_T, br_F, not_true_eq_false, not_false_eq_true, chk_T, chk_F, chk_eq, eqI_dc, ltI_dc, leI_dc, eqN_dc, notB_dc, andB_dc, andB_t, eqB_dc, notB_t, notB_f, inR_dc, upR_dc, ln_e, app_e, tk_e, dp_e, upd_e, repl_e, natI_n, br_pos, br_neg, addI_n, fitN_T, e3', addI_id (x := 60)] <;> rfl, by omega, h3⟩
  · exact ⟨l, c2, by simp (disch := omega) only [lett_e, bnd_s, bnd_chk, br_not, br_t, br_f, br_T, br_F, not_true_eq_false, not_false_eq_true, chk_T, chk_F, chk_eq, eqI_dc, ltI_dc, leI_dc, eqN_dc, notB_dc, andB_dc, andB_t, eqB_dc, notB_t, notB_f, inR_dc, upR_dc, ln_e, app_e, tk_e, dp_e, upd_e, repl_e, natI_n, br_pos, br_neg, addI_n, fitN_T, e1', e2'] <;> rfl, by omega, h2⟩
theorem d_twin {k : Nat} (hk : K0 ≤ k) {c : Cur} (a : List NoteT) (ha : a.length ≤ 100) (hc : Cok c) : ∃ l c', spec_l08Twin.f k c a = some (l, c', ()) ∧ l.length ≤ a.length + 3 ∧ (NotesP a → a.length ≤ 50 → NotesP l) ∧ Cok c' := by
  have hk' := hk
  unfold K0 at hk'
  unfold spec_l08Twin.f
  simp only [lett_e]
  refine loop_rds (P := fun r => ∃ (l : List NoteT) (c' : Cur), r = some (l, c', ()) ∧ l.length ≤ a.length + 3 ∧ (NotesP a → a.length ≤ 50 → NotesP l) ∧ Cok c') (n := a.length) (fun i s => ∃ (c : Cur) (l : List NoteT), s = (c.1, c.2.1, c.2.2.1, l, (i : Int), ()) ∧ Cok c ∧ l.Sublist (a.take i)) ⟨c, [], rfl, hc, by simp⟩ ?_ ?_ (by omega)
  · rintro i s rec hi ⟨c, l, rfl, hc, hl⟩
    have hll := hl.length_le
    rw [List.length_take] at hll
    obtain ⟨x, c2, e2, h2⟩ := d_once k 3 hc
    have e2' : spec_l01Once.f k (c.1, c.2.1, c.2.2.1, ()) 3 = some (x, c2, ()) := e2
    have ht := take_s (d := (0, 0, 0, 0, 0, ())) hi
    cases x with
    | true =>
      refine ⟨_, ⟨c2, l, rfl, h2, ?_⟩, by simp (disch := omega) only [lett_e, bnd_s, bnd_chk, br_not, br_t, br_f, br_T, br_F, not_true_eq_false, not_false_eq_true, chk_T, chk_F, chk_eq, eqI_dc, ltI_dc, leI_dc, eqN_dc, notB_dc, andB_dc, andB_t, eqB_dc, notB_t, notB_f, inR_dc, upR_dc, ln_e, app_e, tk_e, dp_e, upd_e, repl_e, natI_n, br_pos, br_neg, addI_n, fitN_T, e2'] <;> rfl⟩
      rw [ht]
      exact hl.trans (List.sublist_append_left _ _)
    | false =>
      have hf := fit1 (rN a i) (l := l) (by omega)
      refine ⟨_, ⟨c2, l ++ [rN a i], rfl, h2, ?_⟩, by simp (disch := omega) only [lett_e, bnd_s, bnd_chk, br_not, br_t, br_f, br_T, br_F, not_true_eq_false, not_false_eq_true, chk_T, chk_F, chk_eq, eqI_dc, ltI_dc, leI_dc, eqN_dc, notB_dc, andB_dc, andB_t, eqB_dc, notB_t, notB_f, inR_dc, upR_dc, ln_e, app_e, tk_e, dp_e, upd_e, repl_e, natI_n, br_pos, br_neg, addI_n, fitN_T, e2', hf] <;> rfl⟩
      rw [ht]
      exact List.Sublist.append hl (List.Sublist.refl _)
  · rintro s rec ⟨c, l, rfl, hc, hl⟩
    rw [List.take_length] at hl
    have hll := hl.length_le
    obtain ⟨x, c2, e2, a2, b2, _, h2⟩ := d_below k 4 hc
    have b2 := b2 (by omega)
    have e2' : spec_l01Below.f k (c.1, c.2.1, c.2.2.1, ()) 4 = some (x, c2, ()) := e2
    obtain ⟨n, rfl⟩ := Int.eq_ofNat_of_zero_le a2
    have hP : NotesP a → NotesP l := fun h => notesP_of (by have := h.1; omega) (fun y hy => h.2.1 y (hl.subset hy)) ((notesP_asc h).sublist hl)
    dsimp only
    rw [ltI_dc, ln_e, br_neg (by omega), e2', bnd_s]
    refine loop_msr (P := fun r => ∃ (l : List NoteT) (c' : Cur), r = some (l, c', ()) ∧ l.length ≤ a.length + 3 ∧ (NotesP a → a.length ≤ 50 → NotesP l) ∧ Cok c') (fun f s => ∃ (c : Cur) (l : List NoteT), s = (c.1, c.2.1, c.2.2.1, l, (f : Int), ()) ∧ Cok c ∧ (NotesP a → a.length ≤ 50 → NotesP l) ∧ l.length + f ≤ a.length + 3) ?_ (f := n) ⟨c2, l, rfl, h2, fun h _ => hP h, by omega⟩ (by omega)
    rintro f s rec ⟨c, l, rfl, hc, hl, hn⟩
    cases f with
    | zero => exact .inl ⟨l, c, by simp (disch := omega) only [lett_e, bnd_s, bnd_chk, br_not, br_t, br_f, br_T, br_F, not_true_eq_false, not_false_eq_true, chk_T, chk_F, chk_eq, eqI_dc, ltI_dc, leI_dc, eqN_dc, notB_dc, andB_dc, andB_t, eqB_dc, notB_t, notB_f, inR_dc, upR_dc, ln_e, app_e, tk_e, dp_e, upd_e, repl_e, natI_n, br_pos, br_neg, addI_n, fitN_T] <;> rfl, by omega, hl, hc⟩
    | succ f =>
      obtain ⟨nt, c2, e2, p2, q2, h2⟩ := d_note k hc
      obtain ⟨y, c3, e3, a3, b3, _, h3⟩ := d_below k 2 h2
      have b3 := b3 (by omega)
      have e2' : spec_l08Note.f k (c.1, c.2.1, c.2.2.1, ()) = some (nt, c2, ()) := e2
      have e3' : spec_l01Below.f k (c2.1, c2.2.1, c2.2.2.1, ()) 2 = some (y, c3, ()) := e3
      have p21 := p2.1
      have hm : mulI .i64 24 y = 24 * y := mulI_id' (by omega)
      have ha2 : addI .i64 nt.1 (24 * y) = nt.1 + 24 * y := addI_id (by omega)
      have e4 := spec_l08At_f hk l (nt.1 + 24 * y) (by omega)
      have e5 := spec_NotesOk_f hk l
      have e6 : spec_l08With.f k l (nt.1 + 24 * y, nt.2.1, nt.2.2.1, nt.2.2.2.1, nt.2.2.2.2.1, ()) = some (insN (nt.1 + 24 * y, nt.2) l, ()) := spec_l08With_f hk l (nt.1 + 24 * y, nt.2) (by omega)
      have hs : subI .i64 ((f + 1 : Nat) : Int) 1 = (f : Int) := subI_nat (by omega)
      have hnp : NoteP (nt.1 + 24 * y, nt.2) := ⟨⟨by dsimp only; omega, by dsimp only; omega⟩, p2.2⟩
      by_cases hz : (atN (nt.1 + 24 * y) l).1 = 0
      · by_cases hok : NotesP l
        · exact .inr ⟨f, _, by omega, ⟨c3, insN (nt.1 + 24 * y, nt.2) l, rfl, h3, fun h h50 => insN_ok (hl h h50) hnp hz (by omega), by rw [insN_len]; omega⟩, by simp (disch := omega) only [lett_e, bnd_s, bnd_chk, br_not, br_t, br_f, br_T, br_F, not_true_eq_false, not_false_eq_true, chk_T, chk_F, chk_eq, eqI_dc, ltI_dc, leI_dc, eqN_dc, notB_dc, andB_dc, andB_t, eqB_dc, notB_t, notB_f, inR_dc, upR_dc, ln_e, app_e, tk_e, dp_e, upd_e, repl_e, natI_n, br_pos, br_neg, addI_n, fitN_T, e2', e3', hm, ha2, e4, e5, e6, hs]⟩
        · exact .inr ⟨f, _, by omega, ⟨c3, l, rfl, h3, hl, by omega⟩, by simp (disch := omega) only [lett_e, bnd_s, bnd_chk, br_not, br_t, br_f, br_T, br_F, not_true_eq_false, not_false_eq_true, chk_T, chk_F, chk_eq, eqI_dc, ltI_dc, leI_dc, eqN_dc, notB_dc, andB_dc, andB_t, eqB_dc, notB_t, notB_f, inR_dc, upR_dc, ln_e, app_e, tk_e, dp_e, upd_e, repl_e, natI_n, br_pos, br_neg, addI_n, fitN_T, e2', e3', hm, ha2, e4, e5, hs]⟩
      · exact .inr ⟨f, _, by omega, ⟨c3, l, rfl, h3, hl, by omega⟩, by simp (disch := omega) only [lett_e, bnd_s, bnd_chk, br_not, br_t, br_f, br_T, br_F, not_true_eq_false, not_false_eq_true, chk_T, chk_F, chk_eq, eqI_dc, ltI_dc, leI_dc, eqN_dc, notB_dc, andB_dc, andB_t, eqB_dc, notB_t, notB_f, inR_dc, upR_dc, ln_e, app_e, tk_e, dp_e, upd_e, repl_e, natI_n, br_pos, br_neg, addI_n, fitN_T, e2', e3', hm, ha2, e4, hs]⟩
theorem d_drawNotes {k : Nat} (hk : K0 ≤ k) (b : List (Int × Unit)) (hb : b.length ≤ 1048576) : ∃ l m, spec_DrawNotes.f k b = some (l, m, ()) ∧ NotesP l ∧ NotesP m ∧ agree l m ∧ l.length ≤ 13 ∧ m.length ≤ 16 := by
  obtain ⟨c, e0, hc⟩ := d_new hk b hb
  obtain ⟨l, c1, e1, pl, hl, h1⟩ := d_notes hk hc
  obtain ⟨t, c2, e2, ht, pt, h2⟩ := d_twin hk l (by omega) h1
  have pt := pt pl (by omega)
  have e1' : spec_l08Notes.f k (c.1, c.2.1, c.2.2.1, ()) = some (l, c1, ()) := e1
  have e2' : spec_l08Twin.f k (c1.1, c1.2.1, c1.2.2.1, ()) l = some (t, c2, ()) := e2
  have hk' := hk
  unfold K0 at hk'
  unfold spec_DrawNotes.f
  rw [e0, bnd_s, e1', bnd_s, e2', bnd_s]
  simp only [lett_e]
  refine loop_rds (P := fun r => ∃ (l m : List NoteT), r = some (l, m, ()) ∧ NotesP l ∧ NotesP m ∧ agree l m ∧ l.length ≤ 13 ∧ m.length ≤ 16) (n := t.length) (fun i s => ∃ o : List NoteT, s = (o, (i : Int), ()) ∧ o.Sublist (t.take i) ∧ agree l o) ⟨[], rfl, by simp, fun x _ y hy => by cases hy⟩ ?_ ?_ (by omega)
  · rintro i s rec hi ⟨o, rfl, ho, hag⟩
    have hol := ho.length_le
    rw [List.length_take] at hol
    have hts := take_s (d := (0, 0, 0, 0, 0, ())) hi
    have e3 := spec_l08At_f hk l (rN t i).1 (by omega)
    have e3' : spec_l08At.f k l (rdP (0, 0, 0, 0, 0, ()) t i).1 = some (atN (rN t i).1 l, ()) := e3
    have hf := fit1 (rN t i) (l := o) (by omega)
    have hf' : fitL o [rdP (0, 0, 0, 0, 0, ()) t i] = true := hf
    have add : (atN (rN t i).1 l).1 = 0 ∨ atN (rN t i).1 l = rN t i → (o ++ [rN t i]).Sublist (t.take (i + 1)) ∧ agree l (o ++ [rN t i]) := fun h => by
      refine ⟨by rw [hts]; exact List.Sublist.append ho (List.Sublist.refl _), fun x hx y hy e => ?_⟩
      rcases List.mem_append.1 hy with hy | hy
      · exact hag x hx y hy e
      · rw [List.mem_singleton.1 hy] at e ⊢
        have h8 := atN_mem (notesP_asc pl) hx
        rw [e] at h8
        rcases h with h | h
        · rw [h8] at h
          have := (pl.2.1 x hx).1; omega
        · rw [← h8]; exact h
    by_cases hz : (atN (rN t i).1 l).1 = 0
    · obtain ⟨g1, g2⟩ := add (.inl hz)
      exact ⟨_, ⟨_, rfl, g1, g2⟩, by simp (disch := omega) only [lett_e, bnd_s, bnd_chk, br_not, br_t, br_f, br_T, br_F, not_true_eq_false, not_false_eq_true, chk_T, chk_F, chk_eq, eqI_dc, ltI_dc, leI_dc, eqN_dc, notB_dc, andB_dc, andB_t, eqB_dc, notB_t, notB_f, inR_dc, upR_dc, ln_e, app_e, tk_e, dp_e, upd_e, repl_e, natI_n, br_pos, br_neg, addI_n, fitN_T, e3', hf'] <;> rfl⟩
    · by_cases he : atN (rN t i).1 l = rN t i
      · obtain ⟨g1, g2⟩ := add (.inr he)
        refine ⟨_, ⟨_, rfl, g1, g2⟩, ?_⟩
        have he' := (nt_eq (atN (rN t i).1 l) (rdP (0, 0, 0, 0, 0, ()) t i)).2 he
        simp (disch := omega) only [lett_e, bnd_s, bnd_chk, br_not, br_t, br_f, br_T, br_F, not_true_eq_false, not_false_eq_true, chk_T, chk_F, chk_eq, eqI_dc, ltI_dc, leI_dc, eqN_dc, notB_dc, andB_dc, andB_t, eqB_dc, notB_t, notB_f, inR_dc, upR_dc, ln_e, app_e, tk_e, dp_e, upd_e, repl_e, natI_n, br_pos, br_neg, addI_n, fitN_T, e3', hf', br_pos he']
        rfl
      · refine ⟨_, ⟨o, rfl, by rw [hts]; exact ho.trans (List.sublist_append_left _ _), hag⟩, ?_⟩
        have he' : ¬ _ := fun z => he ((nt_eq (atN (rN t i).1 l) (rdP (0, 0, 0, 0, 0, ()) t i)).1 z)
        simp (disch := omega) only [lett_e, bnd_s, bnd_chk, br_not, br_t, br_f, br_T, br_F, not_true_eq_false, not_false_eq_true, chk_T, chk_F, chk_eq, eqI_dc, ltI_dc, leI_dc, eqN_dc, notB_dc, andB_dc, andB_t, eqB_dc, notB_t, notB_f, inR_dc, upR_dc, ln_e, app_e, tk_e, dp_e, upd_e, repl_e, natI_n, br_pos, br_neg, addI_n, fitN_T, e3', hf', br_neg he'] <;> rfl
  · rintro s rec ⟨o, rfl, ho, hag⟩
    rw [List.take_length] at ho
    have hol := ho.length_le
    exact ⟨l, o, by simp (disch := omega) only [lett_e, bnd_s, bnd_chk, br_not, br_t, br_f, br_T, br_F, not_true_eq_false, not_false_eq_true, chk_T, chk_F, chk_eq, eqI_dc, ltI_dc, leI_dc, eqN_dc, notB_dc, andB_dc, andB_t, eqB_dc, notB_t, notB_f, inR_dc, upR_dc, ln_e, app_e, tk_e, dp_e, upd_e, repl_e, natI_n, br_pos, br_neg, addI_n, fitN_T] <;> rfl, pl, notesP_of (by have := pt.1; omega) (fun y hy => pt.2.1 y (ho.subset hy)) ((notesP_asc pt).sublist ho), hag, hl, by omega⟩
theorem d_drawMerge {k : Nat} (hk : K0 ≤ k) (b : List (Int × Unit)) (hb : b.length ≤ 1048576) : ∃ l m, spec_DrawMergeNotes.f k b = some (l, m, ()) ∧ l.length ≤ 1048576 ∧ m.length ≤ 1048576 := by
  obtain ⟨c, e0, hc⟩ := d_new hk b hb
  obtain ⟨l, c1, e1, hl, h1⟩ := d_any hk hc
  obtain ⟨x, c2, e2, h2⟩ := d_once k 8 h1
  have e1' : spec_l08Any.f k (c.1, c.2.1, c.2.2.1, ()) = some (l, c1, ()) := e1
  have e2' : spec_l01Once.f k (c1.1, c1.2.1, c1.2.2.1, ()) 8 = some (x, c2, ()) := e2
  unfold spec_DrawMergeNotes.f
  cases x with
  | true =>
    obtain ⟨m, c3, e3, hm, _⟩ := d_any hk h2
    have e3' : spec_l08Any.f k (c2.1, c2.2.1, c2.2.2.1, ()) = some (m, c3, ()) := e3
    exact ⟨l, m, by simp (disch := omega) only [lett_e, bnd_s, bnd_chk, br_not, br_t, br_f, br_T, br_F, not_true_eq_false, not_false_eq_true, chk_T, chk_F, chk_eq, eqI_dc, ltI_dc, leI_dc, eqN_dc, notB_dc, andB_dc, andB_t, eqB_dc, notB_t, notB_f, inR_dc, upR_dc, ln_e, app_e, tk_e, dp_e, upd_e, repl_e, natI_n, br_pos, br_neg, addI_n, fitN_T, e0, e1', e2', e3'], by omega, by omega⟩
  | false =>
    obtain ⟨m, c3, e3, hm, _⟩ := d_twin hk l hl h2
    have e3' : spec_l08Twin.f k (c2.1, c2.2.1, c2.2.2.1, ()) l = some (m, c3, ()) := e3
    exact ⟨l, m, by simp (disch := omega) only [lett_e, bnd_s, bnd_chk, br_not, br_t, br_f, br_T, br_F, not_true_eq_false, not_false_eq_true, chk_T, chk_F, chk_eq, eqI_dc, ltI_dc, leI_dc, eqN_dc, notB_dc, andB_dc, andB_t, eqB_dc, notB_t, notB_f, inR_dc, upR_dc, ln_e, app_e, tk_e, dp_e, upd_e, repl_e, natI_n, br_pos, br_neg, addI_n, fitN_T, e0, e1', e2', e3'], by omega, by omega⟩
theorem d_drawAdd {k : Nat} (hk : K0 ≤ k) (b : List (Int × Unit)) (hb : b.length ≤ 1048576) : ∃ l n, spec_DrawAddNote.f k b = some (l, n, ()) ∧ l.length ≤ 1048576 := by
  obtain ⟨c, e0, hc⟩ := d_new hk b hb
  obtain ⟨l, c1, e1, hl, h1⟩ := d_any hk hc
  obtain ⟨x, c2, e2, h2⟩ := d_once k 5 h1
  obtain ⟨n, c3, e3, _⟩ := d_anynote k h2
  obtain ⟨n', c3', e3b, _⟩ := d_anynote k h1
  have e1' : spec_l08Any.f k (c.1, c.2.1, c.2.2.1, ()) = some (l, c1, ()) := e1
  have e2' : spec_l01Once.f k (c1.1, c1.2.1, c1.2.2.1, ()) 5 = some (x, c2, ()) := e2
  have e3' : spec_l08AnyNote.f k (c2.1, c2.2.1, c2.2.2.1, ()) = some (n, c3, ()) := e3
  have e3b' : spec_l08AnyNote.f k (c1.1, c1.2.1, c1.2.2.1, ()) = some (n', c3', ()) := e3b
  unfold spec_DrawAddNote.f
  by_cases hpos : 0 < l.length
  · cases x with
    | true =>
      obtain ⟨y, c4, e4, a4, b4, _, _⟩ := d_below k (l.length : Int) h2
      have b4 := b4 (by omega)
      have e4' : spec_l01Below.f k (c2.1, c2.2.1, c2.2.2.1, ()) (l.length : Int) = some (y, c4, ()) := e4
      exact ⟨l, _, by simp (disch := omega) only [lett_e, bnd_s, bnd_chk, br_not, br_t, br_f, br_T, br_F, not_true_eq_false, not_false_eq_true, chk_T, chk_F, chk_eq, eqI_dc, ltI_dc, leI_dc, eqN_dc, notB_dc, andB_dc, andB_t, eqB_dc, notB_t, notB_f, inR_dc, upR_dc, ln_e, app_e, tk_e, dp_e, upd_e, repl_e, natI_n, br_pos, br_neg, addI_n, fitN_T, e0, e1', e2', e4', both_same] <;> rfl, by omega⟩
    | false => exact ⟨l, _, by simp (disch := omega) only [lett_e, bnd_s, bnd_chk, br_not, br_t, br_f, br_T, br_F, not_true_eq_false, not_false_eq_true, chk_T, chk_F, chk_eq, eqI_dc, ltI_dc, leI_dc, eqN_dc, notB_dc, andB_dc, andB_t, eqB_dc, notB_t, notB_f, inR_dc, upR_dc, ln_e, app_e, tk_e, dp_e, upd_e, repl_e, natI_n, br_pos, br_neg, addI_n, fitN_T, e0, e1', e2', e3'] <;> rfl, by omega⟩
  · exact ⟨l, _, by simp (disch := omega) only [lett_e, bnd_s, bnd_chk, br_not, br_t, br_f, br_T, br_F, not_true_eq_false, not_false_eq_true, chk_T, chk_F, chk_eq, eqI_dc, ltI_dc, leI_dc, eqN_dc, notB_dc, andB_dc, andB_t, eqB_dc, notB_t, notB_f, inR_dc, upR_dc, ln_e, app_e, tk_e, dp_e, upd_e, repl_e, natI_n, br_pos, br_neg, addI_n, fitN_T, e0, e1', e3b'] <;> rfl, by omega⟩
theorem d_places {k : Nat} (hk : K0 ≤ k) (b : List (Int × Unit)) (hb : b.length ≤ 1048576) : ∃ l, spec_DrawPlaces.f k b = some (l, ()) ∧ l.length = 12 ∧ ∀ x ∈ l, 0 ≤ x.1 ∧ x.1 < 10000 := by
  obtain ⟨c, e0, hc⟩ := d_new hk b hb
  unfold spec_DrawPlaces.f
  rw [e0, bnd_s]
  unfold K0 at hk
  refine loop_rds (P := fun r => ∃ l : List (Int × Unit), r = some (l, ()) ∧ l.length = 12 ∧ ∀ x ∈ l, 0 ≤ x.1 ∧ x.1 < 10000) (n := 12) (fun i s => ∃ (c : Cur) (l : List (Int × Unit)), s = (c.1, c.2.1, c.2.2.1, l, (i : Int), ()) ∧ Cok c ∧ l.length = i ∧ ∀ x ∈ l, 0 ≤ x.1 ∧ x.1 < 10000) ⟨c, [], rfl, hc, rfl, fun x hx => by cases hx⟩ ?_ ?_ (by omega)
  · rintro i s rec hi ⟨c, l, rfl, hc, hl, hx⟩
    obtain ⟨y, c4, e4, a4, b4, _, h4⟩ := d_below k 10000 hc
    have b4 := b4 (by omega)
    have e4' : spec_l01Below.f k (c.1, c.2.1, c.2.2.1, ()) 10000 = some (y, c4, ()) := e4
    have hf := fit1 (y, ()) (l := l) (by omega)
    refine ⟨_, ⟨c4, l ++ [(y, ())], rfl, h4, by simp [hl], fun x h => ?_⟩, by simp (disch := omega) only [lett_e, bnd_s, bnd_chk, br_not, br_t, br_f, br_T, br_F, not_true_eq_false, not_false_eq_true, chk_T, chk_F, chk_eq, eqI_dc, ltI_dc, leI_dc, eqN_dc, notB_dc, andB_dc, andB_t, eqB_dc, notB_t, notB_f, inR_dc, upR_dc, ln_e, app_e, tk_e, dp_e, upd_e, repl_e, natI_n, br_pos, br_neg, addI_nat, addI_nn, subI_n1, subI_nn, fitN_T, List.length_set, List.length_append, List.length_cons, List.length_nil, e4', hf]⟩
    rcases List.mem_append.1 h with h | h
    · exact hx x h
    · rw [List.mem_singleton.1 h]; exact ⟨a4, b4⟩
  · rintro s rec ⟨c, l, rfl, hc, hl, hx⟩
    exact ⟨l, by simp (disch := omega) only [lett_e, bnd_s, bnd_chk, br_not, br_t, br_f, br_T, br_F, not_true_eq_false, not_false_eq_true, chk_T, chk_F, chk_eq, eqI_dc, ltI_dc, leI_dc, eqN_dc, notB_dc, andB_dc, andB_t, eqB_dc, notB_t, notB_f, inR_dc, upR_dc, ln_e, app_e, tk_e, dp_e, upd_e, repl_e, natI_n, br_pos, br_neg, addI_n, fitN_T] <;> rfl, hl, hx⟩
end Go.Proofs.Ytcfbjloblbhdhaa.Eng
