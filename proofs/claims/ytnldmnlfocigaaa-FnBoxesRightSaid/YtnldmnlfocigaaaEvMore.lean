/- Words on 'from some number of rounds on' (Ev), for the pure statements. No condition. -/
import Derived.Test.YtnldmnlfocigaaaWLastInvWords
set_option linter.unusedVariables false
set_option linter.unusedSimpArgs false
namespace Go.Proofs.Ytnldmnlfocigaaa.Opn
open Go.RowKit Go.Proofs.YtnldmnlfocigaaaW.PrintWords
theorem Ev.ite {α : Type} {c : Prop} [Decidable c] {f g : Nat → Option α} {r : α} (h : c → Ev f r) (h' : ¬ c → Ev g r) : Ev (fun k => if c then f k else g k) r := by
  by_cases hc : c
  · simpa only [if_pos hc] using h hc
  · simpa only [if_neg hc] using h' hc
theorem Ev.pos {α : Type} {c : Prop} [Decidable c] {f g : Nat → Option α} {r : α} (hc : c) (h : Ev f r) : Ev (fun k => if c then f k else g k) r := Ev.ite (fun _ => h) (fun h' => absurd hc h')
theorem Ev.neg {α : Type} {c : Prop} [Decidable c] {f g : Nat → Option α} {r : α} (hc : ¬ c) (h : Ev g r) : Ev (fun k => if c then f k else g k) r := Ev.ite (fun h' => absurd h' hc) (fun _ => h)
theorem Ev.some_ {α : Type} {r s : α} (h : r = s) : Ev (fun _ => some r) s := h ▸ Ev.now r
theorem Ev.from_ {α : Type} {g : Nat → Option α} {r : α} (K : Nat) (h : ∀ k, K ≤ k → g k = some r) : Ev g r := ⟨K, h⟩
theorem Ev.bd {α β : Type} {g : Nat → Option α} {f : Nat → α → Option β} {a : α} {r : β} (h : Ev g a) (k : Ev (fun n => f n a) r) : Ev (fun n => (g n).bind (f n)) r := Ev.bind h k
theorem Ev.bs {α β : Type} {f : Nat → α → Option β} {a : α} {r : β} (k : Ev (fun n => f n a) r) : Ev (fun n => (some a).bind (f n)) r := k
theorem wrap_id {x : Int} (h1 : -9223372036854775808 ≤ x) (h2 : x ≤ 9223372036854775807) : wrap64 x = x := by unfold wrap64; omega
theorem wf_range {x : Int} (h : (Lit.int .i64 x).wf = true) : -9223372036854775808 ≤ x ∧ x ≤ 9223372036854775807 := by
  have h' : IntKind.i64.min ≤ x ∧ x ≤ IntKind.i64.max := by simpa [Lit.wf] using h
  exact ⟨h'.1, h'.2⟩
end Go.Proofs.Ytnldmnlfocigaaa.Opn
namespace Go.Proofs.Ytnldmnlfocigaaa.Opn
open Go.RowKit Go.Proofs.YtnldmnlfocigaaaW.PrintWords
theorem wrap_succ (i : Nat) (h : (i : Int) < 9223372036854775807) : wrap64 ((i : Int) + 1) = ((i + 1 : Nat) : Int) := by rw [wrap_id (by omega) (by omega)]; omega
theorem wrap_pred (i : Nat) (h : 0 < i) (h' : (i : Int) ≤ 9223372036854775807) : wrap64 ((i : Int) - 1) = ((i - 1 : Nat) : Int) := by rw [wrap_id (by omega) (by omega)]; omega
/-- A loop that counts up: from each place on. -/
theorem up_loop {R : Type} (g : Nat → Int → Option R) (n : Nat) (r : Nat → R) (hend : Ev (fun k => g k (n : Int)) (r n))
    (hstep : ∀ i, i < n → Ev (fun k => g k ((i + 1 : Nat) : Int)) (r (i + 1)) → Ev (fun k => g k (i : Int)) (r i)) : ∀ i, i ≤ n → Ev (fun k => g k (i : Int)) (r i) := by
  have key : ∀ d i, n - i = d → i ≤ n → Ev (fun k => g k (i : Int)) (r i) := by
    intro d
    induction d with
    | zero => intro i hd hi; obtain rfl : i = n := by omega
              exact hend
    | succ d ih => intro i hd hi; exact hstep i (by omega) (ih (i + 1) (by omega) (by omega))
  exact fun i hi => key (n - i) i rfl hi
/-- A loop that counts up, over a state that it changes: where the rounds lead. -/
theorem up_state {R S : Type} (g : Nat → S → Int → Option R) (n : Nat) (s : Nat → S) (r : R) (hend : Ev (fun k => g k (s n) (n : Int)) r)
    (hstep : ∀ i, i < n → Ev (fun k => g k (s (i + 1)) ((i + 1 : Nat) : Int)) r → Ev (fun k => g k (s i) (i : Int)) r) : ∀ i, i ≤ n → Ev (fun k => g k (s i) (i : Int)) r := by
  have key : ∀ d i, n - i = d → i ≤ n → Ev (fun k => g k (s i) (i : Int)) r := by
    intro d
    induction d with
    | zero => intro i hd hi; obtain rfl : i = n := by omega
              exact hend
    | succ d ih => intro i hd hi; exact hstep i (by omega) (ih (i + 1) (by omega) (by omega))
  exact fun i hi => key (n - i) i rfl hi
/-- The list whose first i elements have been written (f of the place), the others not yet. -/
def filled {α : Type} (f : Nat → α) (l : List α) (i : Nat) : List α := (List.range i).map f ++ l.drop i
theorem filled_zero {α : Type} (f : Nat → α) (l : List α) : filled f l 0 = l := by simp [filled]
theorem filled_all {α : Type} (f : Nat → α) (l : List α) : filled f l l.length = (List.range l.length).map f := by simp [filled]
theorem filled_length {α : Type} (f : Nat → α) (l : List α) (i : Nat) (h : i ≤ l.length) : (filled f l i).length = l.length := by simp [filled]; omega
theorem filled_set {α : Type} (f : Nat → α) (l : List α) (i : Nat) (h : i < l.length) : (filled f l i).set i (f i) = filled f l (i + 1) := by
  unfold filled
  rw [List.range_succ, List.map_append, List.map_singleton, List.append_assoc, List.set_append_right _ _ (by simp), List.length_map, List.length_range, Nat.sub_self, List.drop_eq_getElem_cons h]
  rfl
theorem filled_get {α : Type} (f : Nat → α) (l : List α) (i : Nat) (h : i < l.length) (d : α) : (filled f l i).getD i d = l.getD i d := by
  unfold filled
  simp [List.getD_eq_getElem?_getD, List.getElem?_append_right]
theorem map_range_get {α : Type} (f : Nat → α) (n i : Nat) (h : i < n) (d : α) : ((List.range n).map f).getD i d = f i := by
  simp [List.getD_eq_getElem?_getD, h]
theorem map_range_eq {α β : Type} (f : α → β) (l : List α) (d : α) : (List.range l.length).map (fun j => f (l.getD j d)) = l.map f := by
  apply List.ext_getElem
  · simp
  · intro i h1 h2
    simp at h1
    simp [List.getD_eq_getElem?_getD, h1]
theorem getD_set_self {α : Type} (l : List α) (i : Nat) (x d : α) (h : i < l.length) : (l.set i x).getD i d = x := by simp [List.getD_eq_getElem?_getD, h]
theorem rd_natI (l : List Int) (i : Nat) : rd l (i : Int) = l.getD i 0 := by simp [rd]
end Go.Proofs.Ytnldmnlfocigaaa.Opn
namespace Go.Proofs.Ytnldmnlfocigaaa.Opn
open Go.RowKit Go.Proofs.YtnldmnlfocigaaaW.PrintWords
/-- The first place at which p holds; -1 where there is none. -/
def fidx {α : Type} (p : α → Bool) (l : List α) : Int := match l.findIdx? p with | some i => (i : Int) | none => -1
theorem fidx_hit {α : Type} (p : α → Bool) (l : List α) (d : α) (k : Nat) (hk : k < l.length) (hp : p (l.getD k d) = true) (hn : ∀ j, j < k → p (l.getD j d) = false) : fidx p l = (k : Int) := by
  have h : l.findIdx? p = some k := by
    rw [List.findIdx?_eq_some_iff_getElem]
    refine ⟨hk, ?_, fun j hj => ?_⟩
    · rwa [List.getD_eq_getElem?_getD, List.getElem?_eq_getElem hk] at hp
    · have := hn j hj
      rw [List.getD_eq_getElem?_getD, List.getElem?_eq_getElem (by omega)] at this
      simpa using this
  simp [fidx, h]
theorem fidx_miss {α : Type} (p : α → Bool) (l : List α) (d : α) (hn : ∀ j, j < l.length → p (l.getD j d) = false) : fidx p l = -1 := by
  have h : l.findIdx? p = none := by
    rw [List.findIdx?_eq_none_iff]
    intro x hx
    obtain ⟨j, hj, rfl⟩ := List.getElem_of_mem hx
    have := hn j hj
    rwa [List.getD_eq_getElem?_getD, List.getElem?_eq_getElem hj] at this
  simp [fidx, h]
theorem fidx_any {α : Type} (p : α → Bool) (l : List α) : decide (fidx p l ≥ 0) = l.any p := by
  unfold fidx
  cases h : l.findIdx? p with
  | none =>
    rw [List.findIdx?_eq_none_iff] at h
    have : l.any p = false := by rw [List.any_eq_false]; intro x hx; simpa using h x hx
    rw [this]; rfl
  | some i =>
    obtain ⟨hi, hp, _⟩ := List.findIdx?_eq_some_iff_getElem.1 h
    have : l.any p = true := List.any_eq_true.2 ⟨_, List.getElem_mem hi, hp⟩
    rw [this]
    exact decide_eq_true (Int.natCast_nonneg i)
theorem getD_mem {α : Type} (l : List α) (z : α) (j : Nat) (h : j < l.length) : l.getD j z ∈ l := by
  rw [List.getD_eq_getElem?_getD, List.getElem?_eq_getElem h]
  exact List.getElem_mem h
end Go.Proofs.Ytnldmnlfocigaaa.Opn
