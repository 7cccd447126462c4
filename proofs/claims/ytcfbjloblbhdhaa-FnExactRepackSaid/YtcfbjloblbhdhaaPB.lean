/- Pure laws: PHar, PHarH, PSz. No condition. -/
import Derived.Test.YtcfbjloblbhdhaaPA
import Derived.Test.YtcfbjloblbhdhaaDFnExactRepack
import Derived.Test.YtcfbjloblbhdhaaEngD
set_option linter.unusedVariables false
set_option linter.unusedSimpArgs false
/- What the laws' own functions do: sizes, copies, comparisons. No condition. -/
namespace Go.Proofs.Ytcfbjloblbhdhaa.Eng
set_option linter.unusedVariables false
set_option linter.unusedSimpArgs false
/-- a size is taken off, or the sizes are too much -/
def Szr (f : Option (Int × Unit)) (n : Int) (t : Nat) : Prop := ∃ r : Int, f = some (r, ()) ∧ ((r = -1 ∧ n < t) ∨ (r = n - t ∧ 0 ≤ r))
theorem szr_flat {α : Type} {l : List α} {n : Int} (hn : 0 ≤ n ∧ n ≤ 1048576) (hl : l.length ≤ 9223372036854775807) : Szr (br (ltI (subI .i64 n (ln l)) 0) (some (-1, ())) (some (subI .i64 n (ln l), ()))) n l.length := by
  rw [ln_e, subI_id (by omega)]
  by_cases h : n - (l.length : Int) < 0
  · exact ⟨-1, by simp (disch := omega) only [lett_e, bnd_s, bnd_chk, br_not, br_t, br_f, br_T, br_F, not_true_eq_false, not_false_eq_true, chk_T, chk_F, chk_eq, eqI_dc, ltI_dc, leI_dc, eqN_dc, notB_dc, andB_dc, andB_t, eqB_dc, notB_t, notB_f, inR_dc, upR_dc, ln_e, app_e, tk_e, dp_e, upd_e, repl_e, natI_n, br_pos, br_neg, addI_n, fitN_T], .inl ⟨rfl, by omega⟩⟩
  · exact ⟨n - l.length, by simp (disch := omega) only [lett_e, bnd_s, bnd_chk, br_not, br_t, br_f, br_T, br_F, not_true_eq_false, not_false_eq_true, chk_T, chk_F, chk_eq, eqI_dc, ltI_dc, leI_dc, eqN_dc, notB_dc, andB_dc, andB_t, eqB_dc, notB_t, notB_f, inR_dc, upR_dc, ln_e, app_e, tk_e, dp_e, upd_e, repl_e, natI_n, br_pos, br_neg, addI_n, fitN_T], .inr ⟨rfl, by omega⟩⟩
/-- one size behind another -/
theorem szr_bnd {f : Option (Int × Unit)} {g : Int × Unit → Option (Int × Unit)} {n : Int} {s t : Nat} (hf : Szr f n s) (hg : ∀ m : Int, 0 ≤ m → m ≤ n → m = n - s → Szr (g (m, ())) m t) : Szr (bnd f fun y => br (ltI y.1 0) (some (-1, ())) (g y)) n (s + t) := by
  obtain ⟨r, e, h | ⟨h1, h2⟩⟩ := hf
  · rw [e, h.1]
    exact ⟨-1, by simp (disch := omega) only [lett_e, bnd_s, bnd_chk, br_not, br_t, br_f, br_T, br_F, not_true_eq_false, not_false_eq_true, chk_T, chk_F, chk_eq, eqI_dc, ltI_dc, leI_dc, eqN_dc, notB_dc, andB_dc, andB_t, eqB_dc, notB_t, notB_f, inR_dc, upR_dc, ln_e, app_e, tk_e, dp_e, upd_e, repl_e, natI_n, br_pos, br_neg, addI_n, fitN_T], .inl ⟨rfl, by omega⟩⟩
  · obtain ⟨r', e', h'⟩ := hg r h2 (by omega) h1
    refine ⟨r', ?_, ?_⟩
    · rw [e]; simp (disch := omega) only [lett_e, bnd_s, bnd_chk, br_not, br_t, br_f, br_T, br_F, not_true_eq_false, not_false_eq_true, chk_T, chk_F, chk_eq, eqI_dc, ltI_dc, leI_dc, eqN_dc, notB_dc, andB_dc, andB_t, eqB_dc, notB_t, notB_f, inR_dc, upR_dc, ln_e, app_e, tk_e, dp_e, upd_e, repl_e, natI_n, br_pos, br_neg, addI_n, fitN_T]; exact e'
    · rcases h' with ⟨h3, h4⟩ | ⟨h3, h4⟩
      · exact .inl ⟨h3, by omega⟩
      · exact .inr ⟨by omega, h4⟩
theorem szr_end {n : Int} (h : 0 ≤ n) : Szr (some (n, ())) n 0 := ⟨n, rfl, .inr ⟨by omega, h⟩⟩
/-- the sizes of a row's elements -/
theorem szr_loop {α : Type} {d : α} {k : Nat} (hk : K0 ≤ k) {l : List α} {n : Int} (hn : 0 ≤ n ∧ n ≤ 1048576) (hl : l.length ≤ 9223372036854775807) (T : List α → Nat) (h0 : T [] = 0) (s : α → Nat) (hT : ∀ i, i < l.length → T (l.take (i + 1)) = T (l.take i) + s (rdP d l i)) {F : (Int × Int × Unit → Option (Int × Unit)) → Int × Int × Unit → Option (Int × Unit)}
    (hF : ∀ (i : Nat) (m : Int) rec, i < l.length → l.length ≤ 1048576 → 0 ≤ m ∧ m ≤ 1048576 → F rec (m, (i : Int), ()) = br (dc (0 ≤ m - s (rdP d l i))) (rec (m - s (rdP d l i), ((i + 1 : Nat) : Int), ())) (some (-1, ()))) (hE : ∀ (m : Int) rec, F rec (m, (l.length : Int), ()) = some (m, ())) :
    Szr (br (ltI (subI .i64 n (ln l)) 0) (some (-1, ())) (loopN F k (subI .i64 n (ln l), 0, ()))) n (l.length + T l) := by
  unfold K0 at hk
  rw [ln_e, subI_id (by omega)]
  by_cases h : n - (l.length : Int) < 0
  · exact ⟨-1, by simp (disch := omega) only [lett_e, bnd_s, bnd_chk, br_not, br_t, br_f, br_T, br_F, not_true_eq_false, not_false_eq_true, chk_T, chk_F, chk_eq, eqI_dc, ltI_dc, leI_dc, eqN_dc, notB_dc, andB_dc, andB_t, eqB_dc, notB_t, notB_f, inR_dc, upR_dc, ln_e, app_e, tk_e, dp_e, upd_e, repl_e, natI_n, br_pos, br_neg, addI_n, fitN_T], .inl ⟨rfl, by omega⟩⟩
  have hl2 : l.length ≤ 1048576 := by omega
  have hmono : ∀ i, i ≤ l.length → T (l.take i) ≤ T l := by
    have : ∀ m i, i + m = l.length → T (l.take i) ≤ T l := by
      intro m
      induction m with
      | zero => intro i e; rw [show i = l.length by omega, List.take_length]; exact Nat.le_refl _
      | succ m ih =>
        intro i e
        have := ih (i + 1) (by omega)
        rw [hT i (by omega)] at this
        omega
    exact fun i hi => this (l.length - i) i (by omega)
  have hb : ∀ i, i ≤ l.length → (∀ j, j < i → 0 ≤ n - l.length - T (l.take (j + 1))) → 0 ≤ n - l.length - (T (l.take i) : Int) := by
    intro i hi hp
    cases i with
    | zero => rw [List.take_zero, h0]; omega
    | succ i => exact hp i (by omega)
  have e : loopN F k (n - (l.length : Int), 0, ()) = br (dc (∀ i, i < l.length → 0 ≤ n - l.length - (T (l.take (i + 1)) : Int))) (some (n - l.length - (T l : Int), ())) (some (-1, ())) := by
    refine loop_while (n := l.length) (fun i => (n - l.length - (T (l.take i) : Int), (i : Int), ())) (fun i => 0 ≤ n - l.length - (T (l.take (i + 1)) : Int)) ?_ ?_ ?_ (by omega)
    · simp [h0]
    · intro i hi hp rec
      have := hb i (by omega) hp
      rw [hF i _ rec hi hl2 ⟨this, by omega⟩, hT i hi]
      refine br_iff' (by omega) (fun _ => ?_)
      congr 2
      omega
    · intro _ rec
      rw [List.take_length]; exact hE _ _
  simp (disch := omega) only [lett_e, bnd_s, bnd_chk, br_not, br_t, br_f, br_T, br_F, not_true_eq_false, not_false_eq_true, chk_T, chk_F, chk_eq, eqI_dc, ltI_dc, leI_dc, eqN_dc, notB_dc, andB_dc, andB_t, eqB_dc, notB_t, notB_f, inR_dc, upR_dc, ln_e, app_e, tk_e, dp_e, upd_e, repl_e, natI_n, br_pos, br_neg, addI_n, fitN_T, e]
  by_cases hall : ∀ i, i < l.length → 0 ≤ n - l.length - (T (l.take (i + 1)) : Int)
  · have := hb _ (Nat.le_refl _) hall
    rw [List.take_length] at this
    exact ⟨_, br_pos hall _ _, .inr ⟨by omega, this⟩⟩
  · refine ⟨-1, br_neg hall _ _, .inl ⟨rfl, ?_⟩⟩
    obtain ⟨i, h1⟩ := Classical.not_forall.1 hall
    obtain ⟨h2, h3⟩ := Classical.not_imp.1 h1
    have := hmono (i + 1) (by omega)
    omega
/-- a row that is copied -/
theorem to_loop {α : Type} {d z : α} {k : Nat} (hk : K0 ≤ k) (l : List α) (hl : l.length ≤ 1048576) {F : (List α × Int × Unit → Option (List α × Unit)) → List α × Int × Unit → Option (List α × Unit)}
    (hF : ∀ (i : Nat) (c : List α) rec, i < l.length → c.length = l.length → F rec (c, (i : Int), ()) = rec (c.set i (rdP d l i), ((i + 1 : Nat) : Int), ())) (hE : ∀ c rec, F rec (c, (l.length : Int), ()) = some (c, ())) : loopN F k (List.replicate l.length z, 0, ()) = some (l, ()) := by
  unfold K0 at hk
  refine loop_run (n := l.length) (fun i => (l.take i ++ List.replicate (l.length - i) z, (i : Int), ())) (by simp) (fun i hi rec => ?_) (fun rec => ?_) (by omega)
  · rw [hF i _ rec hi (by simp; omega)]
    have : (l.take i ++ List.replicate (l.length - i) z).set i (rdP d l i) = l.take (i + 1) ++ List.replicate (l.length - (i + 1)) z := by
      rw [List.set_append_right _ _ (by rw [List.length_take]; omega), List.length_take, Nat.min_eq_left (by omega), Nat.sub_self, take_s (d := d) hi, List.append_assoc]
      congr 1
      rw [show l.length - i = (l.length - (i + 1)) + 1 by omega, List.replicate_succ]
      rfl
    rw [this]
  · rw [hE, List.take_length, Nat.sub_self]
    simp
theorem eq_loop {k : Nat} (hk : K0 ≤ k) {n : Nat} (hn : n ≤ 1048576) {F : (Int × Unit → Option (Bool × Unit)) → Int × Unit → Option (Bool × Unit)} (hF : ∀ (i : Nat) rec, i < n → F rec ((i : Int), ()) = rec (((i + 1 : Nat) : Int), ())) (hE : ∀ rec, F rec ((n : Int), ()) = chkP True) : loopN F k (0, ()) = chkP True := by
  unfold K0 at hk
  exact loop_run (n := n) (fun i => ((i : Int), ())) (by simp) (fun i hi rec => hF i rec hi) hE (by omega)
end Go.Proofs.Ytcfbjloblbhdhaa.Eng

/- The laws' own functions on a hall: sizes, copies, comparisons. No condition. -/
namespace Go.Proofs.Ytcfbjloblbhdhaa.Eng
set_option linter.unusedVariables false
set_option linter.unusedSimpArgs false
theorem laws_eqIntS_f {k : Nat} (hk : K0 ≤ k) (l : List (Int × Unit)) (hl : l.length ≤ 1048576) : laws_eqIntS.f k l l = chkP True := by
  unfold laws_eqIntS.f
  simp (disch := omega) only [lett_e, bnd_s, bnd_chk, br_not, br_t, br_f, br_T, br_F, not_true_eq_false, not_false_eq_true, chk_T, chk_F, chk_eq, eqI_dc, ltI_dc, leI_dc, eqN_dc, notB_dc, andB_dc, andB_t, eqB_dc, notB_t, notB_f, inR_dc, upR_dc, ln_e, app_e, tk_e, dp_e, upd_e, repl_e, natI_n, br_pos, br_neg, addI_n, fitN_T]
  refine eq_loop hk hl (fun i rec hi => ?_) (fun rec => by simp (disch := omega) only [lett_e, bnd_s, bnd_chk, br_not, br_t, br_f, br_T, br_F, not_true_eq_false, not_false_eq_true, chk_T, chk_F, chk_eq, eqI_dc, ltI_dc, leI_dc, eqN_dc, notB_dc, andB_dc, andB_t, eqB_dc, notB_t, notB_f, inR_dc, upR_dc, ln_e, app_e, tk_e, dp_e, upd_e, repl_e, natI_n, br_pos, br_neg, addI_n, fitN_T])
  simp (disch := omega) only [lett_e, bnd_s, bnd_chk, br_not, br_t, br_f, br_T, br_F, not_true_eq_false, not_false_eq_true, chk_T, chk_F, chk_eq, eqI_dc, ltI_dc, leI_dc, eqN_dc, notB_dc, andB_dc, andB_t, eqB_dc, notB_t, notB_f, inR_dc, upR_dc, ln_e, app_e, tk_e, dp_e, upd_e, repl_e, natI_n, br_pos, br_neg, addI_n, fitN_T, ]
  rfl
theorem laws_toLimits_f (k : Nat) (x : Int × Int × Unit) : laws_toLimits.f k x = some (x, ()) := rfl
theorem rd_mem {α : Type} {d : α} {l : List α} {i : Nat} (h : i < l.length) : rdP d l i ∈ l := by rw [rd_lt h]; exact List.getElem_mem h
end Go.Proofs.Ytcfbjloblbhdhaa.Eng

/- The sizes of a hall. No condition. -/
namespace Go.Proofs.Ytcfbjloblbhdhaa.Eng
set_option linter.unusedVariables false
set_option linter.unusedSimpArgs false
theorem maxLen_le {n : Nat} (h : n ≤ maxLen) : n ≤ 9223372036854775807 := by unfold maxLen at h; omega
theorem szr_one {f : Option (Int × Unit)} {n : Int} {s : Nat} (hf : Szr f n s) : Szr (bnd f fun y => br (ltI y.1 0) (some (-1, ())) (some (y.1, ()))) n (s + 0) := szr_bnd hf (fun m h _ _ => szr_end h)
/-- what a size comes to, in a loop -/
theorem szr_use {f : Option (Int × Unit)} {m : Int} {s : Nat} (hf : Szr f m s) (hm : 0 ≤ m) {R : Type} (a : Option R) (b : Int → Option R) : (bnd f fun y => br (ltI y.1 0) a (b y.1)) = br (dc (0 ≤ m - s)) (b (m - s)) a := by
  obtain ⟨r, e, ⟨h1, h2⟩ | ⟨h1, h2⟩⟩ := hf
  · rw [e, h1]; simp (disch := omega) only [lett_e, bnd_s, bnd_chk, br_not, br_t, br_f, br_T, br_F, not_true_eq_false, not_false_eq_true, chk_T, chk_F, chk_eq, eqI_dc, ltI_dc, leI_dc, eqN_dc, notB_dc, andB_dc, andB_t, eqB_dc, notB_t, notB_f, inR_dc, upR_dc, ln_e, app_e, tk_e, dp_e, upd_e, repl_e, natI_n, br_pos, br_neg, addI_n, fitN_T]
  · rw [e, h1]; simp (disch := omega) only [lett_e, bnd_s, bnd_chk, br_not, br_t, br_f, br_T, br_F, not_true_eq_false, not_false_eq_true, chk_T, chk_F, chk_eq, eqI_dc, ltI_dc, leI_dc, eqN_dc, notB_dc, andB_dc, andB_t, eqB_dc, notB_t, notB_f, inR_dc, upR_dc, ln_e, app_e, tk_e, dp_e, upd_e, repl_e, natI_n, br_pos, br_neg, addI_n, fitN_T]
def toldW (l : List Want) : List (Int × Unit) := l.flatMap fun c => c.2.1
theorem toldW_s {l : List Want} {i : Nat} (h : i < l.length) : toldW (l.take (i + 1)) = toldW (l.take i) ++ (rdP (0, [], ()) l i).2.1 := by
  rw [take_s (d := (0, [], ())) h, toldW, List.flatMap_append]; simp [toldW]
/-- a hall's sizes, as they come -/
structure BigH (x : HallT) : Prop where
  wait : x.2.1.length ≤ 9223372036854775807
  items : x.2.2.2.2.2.2.2.1.length ≤ 9223372036854775807
  trays : x.2.2.2.2.2.2.2.2.1.length ≤ 9223372036854775807
  chutes : x.2.2.2.2.2.2.2.2.2.2.1.length ≤ 9223372036854775807
  bags : ∀ c ∈ x.2.2.2.2.2.2.2.2.2.2.1, c.2.2.1.length ≤ 9223372036854775807
  wants : x.2.2.2.2.2.2.2.2.2.2.2.1.length ≤ 9223372036854775807
  told : ∀ w ∈ x.2.2.2.2.2.2.2.2.2.2.2.1, w.2.1.length ≤ 9223372036854775807
  lanes : x.2.2.2.2.2.2.2.2.2.2.2.2.2.1.length ≤ 9223372036854775807
  kept : ∀ l ∈ x.2.2.2.2.2.2.2.2.2.2.2.2.2.1, l.1.length ≤ 9223372036854775807
  notes : x.2.2.2.2.2.2.2.2.2.2.2.2.2.2.1.length ≤ 9223372036854775807
  flights : x.2.2.2.2.2.2.2.2.2.2.2.2.2.2.2.1.length ≤ 9223372036854775807
  cases_ : x.2.2.2.2.2.2.2.2.2.2.2.2.2.2.2.2.1.length ≤ 9223372036854775807
theorem mem_flat_len {α β : Type} {f : α → List β} {l : List α} {c : α} (h : c ∈ l) : (f c).length ≤ (l.flatMap f).length := by
  induction l with
  | nil => cases h
  | cons a l ih =>
    rw [List.flatMap_cons, List.length_append]
    rcases List.mem_cons.1 h with e | h
    · subst e; omega
    · have := ih h; omega
end Go.Proofs.Ytcfbjloblbhdhaa.Eng
