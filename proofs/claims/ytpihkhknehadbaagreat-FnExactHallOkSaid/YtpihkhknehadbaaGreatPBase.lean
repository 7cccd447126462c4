/- Words for the pure functions: conditions as propositions, loops as lists. No condition. -/
import Derived.Test.YtpihkhknehadbaaGreatEngWords
namespace Go.Proofs.YtpihkhknehadbaaGreat.Eng
set_option linter.unusedVariables false
/-- how many rounds are enough for every loop -/
def K0 : Nat := 4194304
noncomputable def dc (p : Prop) : Bool := @decide p (Classical.propDecidable p)
theorem dc_true {p : Prop} : dc p = true ↔ p := by unfold dc; exact @decide_eq_true_iff p (Classical.propDecidable p)
theorem dc_false {p : Prop} : dc p = false ↔ ¬ p := by unfold dc; exact @decide_eq_false_iff_not p (Classical.propDecidable p)
theorem dc_congr {p q : Prop} (h : p ↔ q) : dc p = dc q := by rw [propext h]
theorem dc_T {p : Prop} (h : p) : dc p = true := dc_true.2 h
theorem dc_F {p : Prop} (h : ¬ p) : dc p = false := dc_false.2 h
theorem dc_True : dc True = true := dc_T trivial
theorem dc_False : dc False = false := dc_F id
theorem dc_dec (p : Prop) [Decidable p] : decide p = dc p := by
  by_cases h : p
  · rw [dc_T h, decide_eq_true h]
  · rw [dc_F h, decide_eq_false h]
theorem dc_bool (b : Bool) : b = dc (b = true) := by cases b with | true => rw [dc_T rfl] | false => rw [dc_F (by simp)]
theorem eqI_dc (x y : Int) : eqI x y = dc (x = y) := dc_dec _
theorem ltI_dc (x y : Int) : ltI x y = dc (x < y) := dc_dec _
theorem leI_dc (x y : Int) : leI x y = dc (x ≤ y) := dc_dec _
theorem eqN_dc (x y : Nat) : eqN x y = dc (x = y) := dc_dec _
theorem notB_dc (p : Prop) : notB (dc p) = dc (¬ p) := by
  by_cases h : p
  · rw [dc_T h, dc_F (fun k => k h)]; rfl
  · rw [dc_F h, dc_T h]; rfl
theorem andB_dc (p q : Prop) : andB (dc p) (dc q) = dc (p ∧ q) := by
  by_cases h : p
  · by_cases k : q
    · have e : dc (p ∧ q) = true := dc_T ⟨h, k⟩
      rw [dc_T h, dc_T k, e]; rfl
    · have e : dc (p ∧ q) = false := dc_F (fun z => k z.2)
      rw [dc_F k, e]; cases dc p <;> rfl
  · have e : dc (p ∧ q) = false := dc_F (fun z => h z.1)
    rw [dc_F h, e]; rfl
theorem andB_t (b : Bool) : andB b true = b := by cases b <;> rfl
theorem eqB_dc (p q : Prop) : eqB (dc p) (dc q) = dc (p ↔ q) := by
  by_cases h : p
  · by_cases k : q
    · have e : dc (p ↔ q) = true := dc_T ⟨fun _ => k, fun _ => h⟩
      rw [dc_T h, dc_T k, e]; rfl
    · have e : dc (p ↔ q) = false := dc_F (fun z => k (z.1 h))
      rw [dc_T h, dc_F k, e]; rfl
  · by_cases k : q
    · have e : dc (p ↔ q) = false := dc_F (fun z => h (z.2 k))
      rw [dc_F h, dc_T k, e]; rfl
    · have e : dc (p ↔ q) = true := dc_T ⟨fun z => absurd z h, fun z => absurd z k⟩
      rw [dc_F h, dc_F k, e]; rfl
theorem notB_t : notB true = false := rfl
theorem notB_f : notB false = true := rfl
theorem inR_dc (i n : Int) : inR i n = dc (0 ≤ i ∧ i < n) := by unfold inR; rw [dc_dec, dc_dec]; exact andB_dc _ _
theorem upR_dc (i n : Int) : upR i n = dc (0 ≤ i ∧ i ≤ n) := by unfold upR; rw [dc_dec, dc_dec]; exact andB_dc _ _
theorem br_t {α : Type} (a b : Option α) : br true a b = a := rfl
theorem br_f {α : Type} (a b : Option α) : br false a b = b := rfl
theorem br_pos {α : Type} {p : Prop} (h : p) (a b : Option α) : br (dc p) a b = a := by rw [dc_T h]; rfl
theorem br_neg {α : Type} {p : Prop} (h : ¬ p) (a b : Option α) : br (dc p) a b = b := by rw [dc_F h]; rfl
theorem br_T {α : Type} (a b : Option α) : br (dc True) a b = a := br_pos trivial a b
theorem br_F {α : Type} (a b : Option α) : br (dc False) a b = b := br_neg id a b
theorem br_same {α : Type} (c : Bool) (a : Option α) : br c a a = a := by cases c <;> rfl
theorem br_not {α : Type} (c : Bool) (a b : Option α) : br (notB c) a b = br c b a := by cases c <;> rfl
theorem bnd_s {α β : Type} (x : α) (f : α → Option β) : bnd (some x) f = f x := rfl
theorem lett_e {α β : Type} (x : α) (f : α → Option β) : lett x f = f x := rfl
/-- checks: a Bool and nothing else -/
noncomputable def chkP (p : Prop) : Option (Bool × Unit) := some (dc p, ())
theorem chk_eq (p : Prop) : some (dc p, ()) = chkP p := rfl
theorem chk_T : some (true, ()) = chkP True := by unfold chkP; rw [dc_True]
theorem chk_F : some (false, ()) = chkP False := by unfold chkP; rw [dc_False]
theorem chk_congr {p q : Prop} (h : p ↔ q) : chkP p = chkP q := by rw [propext h]
theorem br_chk (p q r : Prop) : br (dc p) (chkP q) (chkP r) = chkP ((p ∧ q) ∨ (¬ p ∧ r)) := by
  by_cases h : p
  · rw [br_pos h]; exact chk_congr ⟨fun k => Or.inl ⟨h, k⟩, fun k => k.elim (fun z => z.2) (fun z => absurd h z.1)⟩
  · rw [br_neg h]; exact chk_congr ⟨fun k => Or.inr ⟨h, k⟩, fun k => k.elim (fun z => absurd z.1 h) (fun z => z.2)⟩
theorem br_chkF (p q : Prop) : br (dc p) (chkP False) (chkP q) = chkP (¬ p ∧ q) := by
  rw [br_chk]; exact chk_congr ⟨fun h => h.elim (fun z => z.2.elim) id, Or.inr⟩
theorem br_chkF' (p q : Prop) : br (dc p) (chkP q) (chkP False) = chkP (p ∧ q) := by
  rw [br_chk]; exact chk_congr ⟨fun h => h.elim id (fun z => z.2.elim), Or.inl⟩
theorem br_chkT (p q : Prop) : br (dc p) (chkP True) (chkP q) = chkP (p ∨ q) := by
  rw [br_chk]
  refine chk_congr ⟨fun h => h.elim (fun z => Or.inl z.1) (fun z => Or.inr z.2), fun h => ?_⟩
  by_cases k : p
  · exact Or.inl ⟨k, trivial⟩
  · exact Or.inr ⟨k, h.elim (fun z => absurd z k) id⟩
theorem bnd_chk {β : Type} (p : Prop) (f : Bool × Unit → Option β) : bnd (chkP p) f = f (dc p, ()) := rfl
/-! ### Numbers -/
theorem wrap_id {x : Int} (h : -9223372036854775808 ≤ x ∧ x < 9223372036854775808) : IntKind.i64.wrap x = x := by
  have e : IntKind.i64.wrap x = if x % 18446744073709551616 ≥ 9223372036854775808 then x % 18446744073709551616 - 18446744073709551616 else x % 18446744073709551616 := by
    unfold IntKind.wrap
    simp [IntKind.bits, IntKind.signed]
  rw [e]
  split <;> omega
theorem addI_id {x y : Int} (h : -9223372036854775808 ≤ x + y ∧ x + y < 9223372036854775808) : addI .i64 x y = x + y := wrap_id h
theorem subI_id {x y : Int} (h : -9223372036854775808 ≤ x - y ∧ x - y < 9223372036854775808) : subI .i64 x y = x - y := wrap_id h
theorem addI_nat {i : Nat} (h : i < 4611686018427387904) : addI .i64 (i : Int) 1 = ((i + 1 : Nat) : Int) := by rw [addI_id (by omega)]; rfl
theorem subI_nat {i : Nat} (h : i + 1 < 4611686018427387904) : subI .i64 ((i + 1 : Nat) : Int) 1 = (i : Int) := by rw [subI_id (by omega)]; omega
theorem natI_n (i : Nat) : natI (i : Int) = i := rfl
theorem ln_e {α : Type} (l : List α) : ln l = (l.length : Int) := rfl
theorem app_e {α : Type} (l m : List α) : app l m = l ++ m := rfl
theorem tk_e {α : Type} (l : List α) (n : Nat) : tk l n = l.take n := rfl
theorem dp_e {α : Type} (l : List α) (n : Nat) : dp l n = l.drop n := rfl
theorem upd_e {α : Type} (l : List α) (n : Nat) (x : α) : upd l n x = l.set n x := rfl
theorem repl_e {α : Type} (n : Nat) (x : α) : repl n x = List.replicate n x := rfl
theorem fitL_T {α : Type} {l m : List α} (h : l.length + m.length < 68719476736) : fitL l m = true := by
  unfold fitL
  rw [show Nat.ble 68719476736 (l.length + m.length) = false from by
    cases e : Nat.ble 68719476736 (l.length + m.length) with
    | false => rfl
    | true => have := Nat.le_of_ble_eq_true e; omega]
  rfl
theorem fitN_T {n : Nat} (h : n < 68719476736) : fitN (n : Int) = true := by
  unfold fitN
  rw [show Nat.ble 68719476736 (Int.toNat (n : Int)) = false from by
    cases e : Nat.ble 68719476736 (Int.toNat (n : Int)) with
    | false => rfl
    | true => have := Nat.le_of_ble_eq_true e; rw [Int.toNat_natCast] at this; omega]
  simp
theorem rd_lt {α : Type} {d : α} {l : List α} {i : Nat} (h : i < l.length) : rdP d l i = l[i] := by
  unfold rdP; rw [List.getD_eq_getElem?_getD, List.getElem?_eq_getElem h]; rfl
theorem all_rd {α : Type} {d : α} {l : List α} {P : α → Prop} : (∀ i, i < l.length → P (rdP d l i)) ↔ ∀ x ∈ l, P x := by
  constructor
  · intro h x hx
    obtain ⟨i, hi, e⟩ := List.getElem_of_mem hx
    have := h i hi
    rw [rd_lt hi, e] at this; exact this
  · intro h i hi
    rw [rd_lt hi]; exact h _ (List.getElem_mem hi)
/-! ### Loops -/
section
variable {σ R : Type} {F : (σ → Option R) → σ → Option R}
theorem loop_run {k n : Nat} {c0 : σ} {r : Option R} (s : Nat → σ) (h0 : c0 = s 0) (hstep : ∀ i, i < n → ∀ rec, F rec (s i) = rec (s (i + 1))) (hend : ∀ rec, F rec (s n) = r) (hk : n < k) : loopN F k c0 = r := by
  subst h0
  have key : ∀ m i k, i + m = n → m < k → loopN F k (s i) = r := by
    intro m
    induction m with
    | zero =>
      intro i k e hk
      obtain ⟨k', rfl⟩ : ∃ k', k = k' + 1 := ⟨k - 1, by omega⟩
      have : i = n := by omega
      subst this
      exact hend _
    | succ m ih =>
      intro i k e hk
      obtain ⟨k', rfl⟩ : ∃ k', k = k' + 1 := ⟨k - 1, by omega⟩
      show F (loopN F k') (s i) = r
      rw [hstep i (by omega)]
      exact ih (i + 1) k' (by omega) (by omega)
  exact key n 0 k (by omega) hk
/-- rounds may end the loop: g says how -/
def scan (g : Nat → Option (Option R)) (e : Option R) : (m i : Nat) → Option R
  | 0, _ => e
  | m + 1, i => match g i with | some r => r | none => scan g e m (i + 1)
theorem loop_scan {k n : Nat} {c0 : σ} {e : Option R} (s : Nat → σ) (g : Nat → Option (Option R)) (h0 : c0 = s 0) (hstep : ∀ i, i < n → ∀ rec, F rec (s i) = match g i with | some r => r | none => rec (s (i + 1))) (hend : ∀ rec, F rec (s n) = e) (hk : n < k) : loopN F k c0 = scan g e n 0 := by
  subst h0
  have key : ∀ m i k, i + m = n → m < k → loopN F k (s i) = scan g e m i := by
    intro m
    induction m with
    | zero =>
      intro i k e' hk
      obtain ⟨k', rfl⟩ : ∃ k', k = k' + 1 := ⟨k - 1, by omega⟩
      have : i = n := by omega
      subst this
      exact hend _
    | succ m ih =>
      intro i k e' hk
      obtain ⟨k', rfl⟩ : ∃ k', k = k' + 1 := ⟨k - 1, by omega⟩
      show F (loopN F k') (s i) = scan g e (m + 1) i
      rw [hstep i (by omega), scan]
      cases g i with
      | some r => rfl
      | none => exact ih (i + 1) k' (by omega) (by omega)
  exact key n 0 k (by omega) hk
/-- each round is left at r unless P holds -/
theorem loop_while {k n : Nat} {c0 : σ} {r e : Option R} (s : Nat → σ) (P : Nat → Prop) (h0 : c0 = s 0) (hstep : ∀ i, i < n → (∀ j, j < i → P j) → ∀ rec, F rec (s i) = br (dc (P i)) (rec (s (i + 1))) r) (hend : (∀ j, j < n → P j) → ∀ rec, F rec (s n) = e) (hk : n < k) :
    loopN F k c0 = br (dc (∀ i, i < n → P i)) e r := by
  subst h0
  have key : ∀ m i k, i + m = n → m < k → (∀ j, j < i → P j) → loopN F k (s i) = br (dc (∀ j, j < n → P j)) e r := by
    intro m
    induction m with
    | zero =>
      intro i k e' hk hp
      obtain ⟨k', rfl⟩ : ∃ k', k = k' + 1 := ⟨k - 1, by omega⟩
      have : i = n := by omega
      subst this
      rw [br_pos hp]
      exact hend hp _
    | succ m ih =>
      intro i k e' hk hp
      obtain ⟨k', rfl⟩ : ∃ k', k = k' + 1 := ⟨k - 1, by omega⟩
      show F (loopN F k') (s i) = _
      rw [hstep i (by omega) hp]
      by_cases h : P i
      · rw [br_pos h]
        refine ih (i + 1) k' (by omega) (by omega) (fun j hj => ?_)
        by_cases e : j = i
        · rw [e]; exact h
        · exact hp j (by omega)
      · rw [br_neg h, br_neg (fun z => h (z i (by omega)))]
  exact key n 0 k (by omega) hk (fun j hj => by omega)
end
/-- a loop of checks -/
theorem loop_chk {σ : Type} {F : (σ → Option (Bool × Unit)) → σ → Option (Bool × Unit)} {k n : Nat} {c0 : σ} {Q : Prop} (s : Nat → σ) (P : Nat → Prop) (h0 : c0 = s 0) (hk : n < k) (hstep : ∀ i, i < n → (∀ j, j < i → P j) → ∀ rec, F rec (s i) = br (dc (P i)) (rec (s (i + 1))) (chkP False))
    (hend : (∀ j, j < n → P j) → ∀ rec, F rec (s n) = chkP Q) : loopN F k c0 = chkP ((∀ i, i < n → P i) ∧ Q) := by
  rw [loop_while s P h0 hstep hend hk, br_chkF']
/-- a loop that looks for the first -/
theorem loop_any {σ R : Type} {F : (σ → Option R) → σ → Option R} {k n : Nat} {c0 : σ} {r e : Option R} (s : Nat → σ) (P : Nat → Prop) (h0 : c0 = s 0) (hk : n < k) (hstep : ∀ i, i < n → (∀ j, j < i → ¬ P j) → ∀ rec, F rec (s i) = br (dc (P i)) r (rec (s (i + 1))))
    (hend : (∀ j, j < n → ¬ P j) → ∀ rec, F rec (s n) = e) : loopN F k c0 = br (dc (∃ i, i < n ∧ P i)) r e := by
  rw [loop_while s (fun i => ¬ P i) h0 (r := r) (fun i hi hp rec => ?_) hend hk]
  · by_cases h : ∃ i, i < n ∧ P i
    · rw [br_pos h, br_neg (fun z => let ⟨i, hi, hp⟩ := h; z i hi hp)]
    · rw [br_neg h, br_pos (fun i hi hp => h ⟨i, hi, hp⟩)]
  · rw [hstep i hi hp rec]
    by_cases h : P i
    · rw [br_pos h, br_neg (fun z => z h)]
    · rw [br_neg h, br_pos h]
/-- .. and tells which -/
theorem loop_find {σ R : Type} {F : (σ → Option R) → σ → Option R} {k n : Nat} {c0 : σ} {e : Option R} (s : Nat → σ) (P : Nat → Prop) (out : Nat → Option R) (h0 : c0 = s 0) (hk : n < k) (hstep : ∀ i, i < n → (∀ j, j < i → ¬ P j) → ∀ rec, F rec (s i) = br (dc (P i)) (out i) (rec (s (i + 1))))
    (hend : (∀ j, j < n → ¬ P j) → ∀ rec, F rec (s n) = e) : (∃ i, i < n ∧ P i ∧ (∀ j, j < i → ¬ P j) ∧ loopN F k c0 = out i) ∨ ((∀ j, j < n → ¬ P j) ∧ loopN F k c0 = e) := by
  subst h0
  have key : ∀ m i k, i + m = n → m < k → (∀ j, j < i → ¬ P j) → (∃ i, i < n ∧ P i ∧ (∀ j, j < i → ¬ P j) ∧ loopN F k (s (n - m)) = out i) ∨ ((∀ j, j < n → ¬ P j) ∧ loopN F k (s (n - m)) = e) := by
    intro m
    induction m with
    | zero =>
      intro i k e' hk hp
      obtain ⟨k', rfl⟩ : ∃ k', k = k' + 1 := ⟨k - 1, by omega⟩
      have : i = n := by omega
      subst this
      exact .inr ⟨hp, hend hp _⟩
    | succ m ih =>
      intro i k e' hk hp
      obtain ⟨k', rfl⟩ : ∃ k', k = k' + 1 := ⟨k - 1, by omega⟩
      have hi : n - (m + 1) = i := by omega
      rw [hi]
      have hs : loopN F (k' + 1) (s i) = F (loopN F k') (s i) := rfl
      by_cases h : P i
      · refine .inl ⟨i, by omega, h, hp, ?_⟩
        rw [hs, hstep i (by omega) hp, br_pos h]
      · have := ih (i + 1) k' (by omega) (by omega) (fun j hj => by
          by_cases e : j = i
          · rw [e]; exact h
          · exact hp j (by omega))
        rw [hs, hstep i (by omega) hp, br_neg h]
        rwa [show n - m = i + 1 by omega] at this
  have := key n 0 k (by omega) hk (fun j hj => by omega)
  rwa [Nat.sub_self] at this
theorem br_iff {α : Type} {p q : Prop} (h : p ↔ q) (a b : Option α) : br (dc p) a b = br (dc q) a b := by rw [propext h]
theorem br_iff' {α : Type} {p q : Prop} {a a' b : Option α} (h : p ↔ q) (ha : p → a = a') : br (dc p) a b = br (dc q) a' b := by
  by_cases k : p
  · rw [br_pos k, br_pos (h.1 k), ha k]
  · rw [br_neg k, br_neg (fun z => k (h.2 z))]
theorem g1 {p : Prop} (a : Option (Bool × Unit)) : br (dc p) (chkP False) a = br (dc (¬ p)) a (chkP False) := by
  by_cases h : p
  · rw [br_pos h, br_neg (fun z => z h)]
  · rw [br_neg h, br_pos h]
theorem g2 {α : Type} {p q : Prop} (a r : Option α) : br (dc p) (br (dc q) a r) r = br (dc (p ∧ q)) a r := by
  by_cases h : p
  · rw [br_pos h]; exact br_iff ⟨fun z => ⟨h, z⟩, fun z => z.2⟩ _ _
  · rw [br_neg h, br_neg (fun z => h z.1)]
theorem g4 {α : Type} {p q : Prop} (a r : Option α) : br (dc p) (br (dc q) a r) a = br (dc (p → q)) a r := by
  by_cases h : p
  · rw [br_pos h]; exact br_iff ⟨fun z _ => z, fun z => z h⟩ _ _
  · rw [br_neg h, br_pos (fun z => absurd z h)]
theorem addI_n {i : Nat} (h : i < 4611686018427387904) : addI .i64 (i : Int) 1 = (i : Int) + 1 := addI_id (by omega)
theorem ex_rd {α : Type} {d : α} {l : List α} {P : α → Prop} : (∃ i, i < l.length ∧ P (rdP d l i)) ↔ ∃ x, x ∈ l ∧ P x := by
  constructor
  · rintro ⟨i, hi, h⟩
    rw [rd_lt hi] at h
    exact ⟨_, List.getElem_mem hi, h⟩
  · rintro ⟨x, hx, h⟩
    obtain ⟨i, hi, e⟩ := List.getElem_of_mem hx
    exact ⟨i, hi, by rw [rd_lt hi, e]; exact h⟩
theorem take_s {α : Type} {d : α} {l : List α} {i : Nat} (h : i < l.length) : l.take (i + 1) = l.take i ++ [rdP d l i] := by
  rw [List.take_succ_eq_append_getElem h, rd_lt h]
theorem nodup_rd {α β : Type} {d : α} {l : List α} {f : α → β} : (l.map f).Nodup ↔ ∀ i, i < l.length → ∀ j, j < i → f (rdP d l j) ≠ f (rdP d l i) := by
  rw [List.nodup_iff_pairwise_ne, List.pairwise_iff_getElem]
  constructor
  · intro h i hi j hj
    have := h j i (by simpa using Nat.lt_trans hj hi) (by simpa using hi) hj
    rw [rd_lt hi, rd_lt (Nat.lt_trans hj hi)]
    simpa using this
  · intro h i j hi hj hij
    have hj' : j < l.length := by simpa using hj
    have := h j hj' i hij
    rw [rd_lt hj', rd_lt (Nat.lt_trans hij hj')] at this
    simpa using this
theorem nodup_take {α : Type} {d : α} {l : List α} : l.Nodup ↔ ∀ i, i < l.length → rdP d l i ∉ l.take i := by
  have h := nodup_rd (d := d) (l := l) (f := id)
  rw [List.map_id] at h
  rw [h]
  constructor
  · intro h i hi hm
    obtain ⟨j, hj, e⟩ := List.getElem_of_mem hm
    have hj' : j < i := by rw [List.length_take] at hj; omega
    apply h i hi j hj'
    rw [rd_lt (Nat.lt_trans hj' hi)]
    simpa using e
  · intro h i hi j hj e
    apply h i hi
    have hlt := Nat.lt_trans hj hi
    rw [List.mem_iff_getElem]
    exact ⟨j, by rw [List.length_take]; omega, by rw [List.getElem_take, ← rd_lt (d := d) hlt]; exact e⟩
theorem unit_mem {l : List (Int × Unit)} {a : Int} : (∃ x, x ∈ l ∧ x.1 = a) ↔ (a, ()) ∈ l := by
  constructor
  · rintro ⟨⟨x, u⟩, hx, rfl⟩; exact hx
  · intro h; exact ⟨_, h, rfl⟩
/-- a loop told by what holds at each round -/
theorem loop_inv {σ R : Type} {F : (σ → Option R) → σ → Option R} {k n : Nat} {c0 : σ} {r : Option R} (I : Nat → σ → Prop) (h0 : I 0 c0) (hstep : ∀ i c, i < n → I i c → ∃ c', I (i + 1) c' ∧ ∀ rec, F rec c = rec c') (hend : ∀ c, I n c → ∀ rec, F rec c = r) (hk : n < k) : loopN F k c0 = r := by
  have key : ∀ m i k c, i + m = n → m < k → I i c → loopN F k c = r := by
    intro m
    induction m with
    | zero =>
      intro i k c e hk hc
      obtain ⟨k', rfl⟩ : ∃ k', k = k' + 1 := ⟨k - 1, by omega⟩
      have : i = n := by omega
      subst this
      exact hend c hc _
    | succ m ih =>
      intro i k c e hk hc
      obtain ⟨k', rfl⟩ : ∃ k', k = k' + 1 := ⟨k - 1, by omega⟩
      obtain ⟨c', h1, h2⟩ := hstep i c (by omega) hc
      show F (loopN F k') c = r
      rw [h2]
      exact ih (i + 1) k' c' (by omega) (by omega) h1
  exact key n 0 k c0 (by omega) hk h0
theorem chk_pos {p : Prop} (h : p) : chkP p = chkP True := chk_congr ⟨fun _ => trivial, fun _ => h⟩
theorem chk_neg {p : Prop} (h : ¬ p) : chkP p = chkP False := chk_congr ⟨fun z => h z, fun z => z.elim⟩
/-! ### Sorted rows -/
theorem sortL_perm (l : List (Int × Unit)) : (sortL l).Perm l := by
  unfold sortL
  have h := (List.mergeSort_perm (l.map Prod.fst) (fun x y => decide (x ≤ y))).map (fun x => (x, ()))
  rw [List.map_map] at h
  have e : l.map ((fun x => (x, ())) ∘ Prod.fst) = l := by
    conv => rhs; rw [← List.map_id l]
    exact List.map_congr_left (fun x _ => rfl)
  rwa [e] at h
theorem sortL_length (l : List (Int × Unit)) : (sortL l).length = l.length := (sortL_perm l).length_eq
theorem sortL_sorted (l : List (Int × Unit)) : (sortL l).Pairwise (fun a b => a.1 ≤ b.1) := by
  unfold sortL
  rw [List.pairwise_map]
  have := List.pairwise_mergeSort (le := fun x y : Int => decide (x ≤ y)) (by intro a b c h1 h2; simp only [decide_eq_true_eq] at *; omega) (by intro a b; simp only [Bool.or_eq_true, decide_eq_true_eq]; omega) (l.map Prod.fst)
  exact this.imp (by simp)
theorem sortI_e (k : Nat) {l : List (Int × Unit)} (h : l.length ≤ 1048576) : sortI k l = some (sortL l, ()) := by
  unfold sortI; rw [if_pos (by omega)]
/-- a sorted row has no number twice just if no two neighbours are the same -/
theorem sorted_nodup {s : List (Int × Unit)} (hs : s.Pairwise (fun a b => a.1 ≤ b.1)) : s.Nodup ↔ ∀ i, i + 1 < s.length → (rdP (0, ()) s (i + 1)).1 ≠ (rdP (0, ()) s i).1 := by
  rw [List.pairwise_iff_getElem] at hs
  rw [List.nodup_iff_pairwise_ne, List.pairwise_iff_getElem]
  constructor
  · intro h i hi e
    rw [rd_lt hi, rd_lt (Nat.lt_of_succ_lt hi)] at e
    exact h i (i + 1) (Nat.lt_of_succ_lt hi) hi (by omega) (by
      have : ∀ a b : Int × Unit, a.1 = b.1 → a = b := fun ⟨a, _⟩ ⟨b, _⟩ h => by cases h; rfl
      exact (this _ _ e).symm)
  · intro h i j hi hj hij e
    have h1 := h i (by omega)
    rw [rd_lt (by omega), rd_lt hi] at h1
    have h2 := hs i (i + 1) hi (by omega) (by omega)
    have h3 : s[i + 1].1 ≤ s[j].1 := by
      rcases Nat.lt_or_ge (i + 1) j with h | h
      · exact hs (i + 1) j (by omega) hj h
      · have : j = i + 1 := by omega
        subst this; exact Int.le_refl _
    rw [← e] at h3
    omega
end Go.Proofs.YtpihkhknehadbaaGreat.Eng
