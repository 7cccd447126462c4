/- Rows of a call's own from which elements are deleted: 'clear' at elements of any number of cells, cells beyond a row, lists. No condition. -/
import Derived.Test.YtppojihmllmgnaaEvMore
import Derived.Lib.SliceRun
namespace Go.Proofs.Ytppojihmllmgnaa.Opn
open Go.RowKit Go.Proofs.YtppojihmllmgnaaW.PrintWords
set_option linter.unusedVariables false
set_option linter.unusedSimpArgs false
theorem zeroCells_one {z : Array Value} (h1 : ∀ v ∈ z, v.oneCell' = true) (hp : 0 < z.size) (n : Nat) : (∀ v ∈ (Builtin.zeroCells z n).toList, v.oneCell' = true) ∧ (Builtin.zeroCells z n).toList.length = n * z.size := by
  refine ⟨fun v hv => ?_, by simp [Builtin.zeroCells]⟩
  simp only [Builtin.zeroCells, Array.toList_map, Array.toList_range, List.mem_map, List.mem_range] at hv
  obtain ⟨a, _, rfl⟩ := hv
  have : a % z.size < z.size := Nat.mod_lt _ hp
  rw [getElem!_pos z _ this]
  exact h1 _ (Array.getElem_mem this)
/-- 'clear(s)', s a slice of n > 0 elements of some cells each. -/
theorem run_clear_cells {P : Program} (w : World) (t e T : TypeId) (z : Value) (sz : Nat) (ht : P.underlying t = some (.slice e)) (hv : ∀ w, (zeroValue e).run P w = .ok z w) (hz : z.cells.size = sz) (hs : 0 < sz) (h1 : ∀ v ∈ z.cells, v.oneCell' = true)
    (b o n c : Nat) (hn : 0 < n) {cur : Array Value} (hb : w.heap[b]? = some (.cells cur T (0, 0))) (hfit : o + n * sz ≤ cur.size) :
    ∃ vs : List Value, vs.length = n * sz ∧ ∀ ty, (Builtin.clear_ #[t] ty #[.slice (some ⟨b, o, none⟩) n c]).run P w = .ok (.tuple #[]) (w.setCells b o vs) := by
  obtain ⟨ho, hl⟩ := zeroCells_one h1 (by omega) n
  rw [hz] at hl
  refine ⟨_, hl, fun ty => ?_⟩
  have hst := run_storeCells_cells (P := P) b o (Builtin.zeroCells z.cells n).toList 0 w (fun j hj => by
    rw [hl] at hj
    have hc := blk_cell hb (o + 0 + j)
    rw [hc, Array.getElem?_eq_getElem (by omega)]; rfl) (fun j hj => blk_frozen hb _) ho
  simp only [Nat.add_zero] at hst
  obtain ⟨m, rfl⟩ : ∃ m, n = m + 1 := ⟨n - 1, by omega⟩
  simp [Builtin.clear_, run_underlying ht, hv, hst]
namespace Kd
variable {α : Type} {d : Kd α} {e base g n cap : Nat} {ok : Nat → Prop} {W : World} {xs : List α}
/-- The block of a row of one's own. -/
theorem R_block (h : d.R e W base ok (.slice (some ⟨g, 0, none⟩) n cap) xs) : ∃ cur, W.heap[g]? = some (.cells cur e (0, 0)) ∧ cur.size = cap * d.sz ∧ n ≤ cap ∧ n = xs.length ∧ base ≤ g ∧ ok g := by
  obtain ⟨hok, inner, ⟨ho1, ho2⟩, hr⟩ := h
  have hg0 := hok g (by simp [Value.ownBlock])
  rcases ho2 with ⟨hv, _⟩ | ⟨g', cap', cur, hv, hbase, hh, hnc, hcm, hcs, ht⟩
  · cases hv
  · injection hv with ha hn hcap
    injection ha with ha
    injection ha with hg
    subst hg hcap
    exact ⟨cur, hh, hcs, by omega, hn, hbase, hg0⟩
/-- Cells behind the row are written: it stays. -/
theorem R_beyond (h : d.R e W base ok (.slice (some ⟨g, 0, none⟩) n cap) xs) (o : Nat) (vs : List Value) (ho : n * d.sz ≤ o) (hfit : o + vs.length ≤ cap * d.sz) :
    d.R e (W.setCells g o vs) base ok (.slice (some ⟨g, 0, none⟩) n cap) xs ∧ W.grownBy (W.setCells g o vs) (some g) := by
  obtain ⟨hok, inner, ⟨ho1, ho2⟩, hr⟩ := h
  rcases ho2 with ⟨hv, _⟩ | ⟨g', cap', cur, hv, hbase, hh, hnc, hcm, hcs, ht⟩
  · cases hv
  · injection hv with ha hn hcap
    injection ha with ha
    injection ha with hg
    subst hg hcap
    obtain ⟨cur', h3, h4, h5⟩ := setCells_row vs o W cur hh (by omega)
    obtain ⟨s1, s2, s3, s4⟩ := setCells_same g vs o W
    have hfar : ∀ k, k ≠ g → (W.setCells g o vs).heap[k]? = W.heap[k]? := fun k hk => setCells_far vs _ k hk
    have hgo : some g = (Value.slice (some ⟨g, 0, none⟩) n cap).ownBlock := by simp [Value.ownBlock]
    refine ⟨⟨hok, inner, ⟨ho1, .inr ⟨g, cap, cur', by rw [hn], hbase, h3, hnc, hcm, by rw [h4, hcs], ?_⟩⟩, hr.imp_ (fun _ _ hM => d.M_move (fun k hk => hfar k (fun he => hk.2 (by rw [he]; exact hgo))) hM)⟩,
      ⟨s1, s2, s3, by rw [s4]; exact Nat.le_refl _, fun k _ hk => hfar k (fun he => hk (by rw [he]))⟩⟩
    rw [← ht, h5]
    have hlen : xs.length * d.sz ≤ o := by rw [← hn]; exact ho
    have hfc : xs.length * d.sz ≤ cur.size := by omega
    rw [List.append_assoc, List.take_append_of_le_length (by rw [List.length_take, Array.length_toList]; exact Nat.le_min.2 ⟨hlen, hfc⟩), List.take_take, Nat.min_eq_left hlen]
end Kd
/-- A place at which p holds is left out. -/
theorem del_skip {α : Type} (p : α → Bool) (l : List α) (j : Nat) (y d : α) (hj : j < l.length) (hy : l.getD j d = y) (hp : p y = true) : (l.take (j + 1)).filter (fun x => !p x) = (l.take j).filter (fun x => !p x) := by
  rw [List.take_succ_eq_append_getElem hj, List.filter_append]
  have : l[j] = y := by rw [← hy, List.getD_eq_getElem?_getD, List.getElem?_eq_getElem hj]; rfl
  simp [this, hp]
theorem del_keep {α : Type} (p : α → Bool) (l : List α) (j : Nat) (y d : α) (hj : j < l.length) (hy : l.getD j d = y) (hp : p y = false) : (l.take (j + 1)).filter (fun x => !p x) = (l.take j).filter (fun x => !p x) ++ [y] := by
  rw [List.take_succ_eq_append_getElem hj, List.filter_append]
  have : l[j] = y := by rw [← hy, List.getD_eq_getElem?_getD, List.getElem?_eq_getElem hj]; rfl
  simp [this, hp]
theorem set_take {α : Type} (row : List α) (i : Nat) (y : α) (hi : i < row.length) : (row.set i y).take (i + 1) = row.take i ++ [y] := by
  rw [List.take_succ_eq_append_getElem (by simpa using hi), List.getElem_set_self, List.take_set_of_le (Nat.le_refl _)]
theorem set_drop {α : Type} (row : List α) (i j : Nat) (y : α) (hij : i < j) : (row.set i y).drop j = row.drop j := by
  rw [List.drop_set, if_pos hij]
theorem drop_get {α : Type} (row l : List α) (j : Nat) (d : α) (h : row.drop j = l.drop j) : row.getD j d = l.getD j d := by
  have := congrArg (fun x => x[0]?) h
  simp only [List.getElem?_drop, Nat.add_zero] at this
  rw [List.getD_eq_getElem?_getD, List.getD_eq_getElem?_getD, this]
theorem drop_more {α : Type} (row l : List α) (j : Nat) (h : row.drop j = l.drop j) : row.drop (j + 1) = l.drop (j + 1) := by
  have := congrArg (fun x => x.drop 1) h
  simpa [List.drop_drop] using this
/-- Where p holds first. -/
theorem del_start {α : Type} (p : α → Bool) (l : List α) (k0 : Nat) (h : l.findIdx? p = some k0) : k0 < l.length ∧ l.take k0 = (l.take (k0 + 1)).filter (fun x => !p x) ∧ fidx p l = (k0 : Int) := by
  have hf : fidx p l = (k0 : Int) := by simp [fidx, h]
  rw [List.findIdx?_eq_some_iff_getElem] at h
  obtain ⟨hk, hp, hn⟩ := h
  refine ⟨hk, ?_, hf⟩
  rw [List.take_succ_eq_append_getElem hk, List.filter_append, List.filter_eq_self.2 (fun x hx => ?_)]
  · simp [hp]
  · obtain ⟨j, hj, rfl⟩ := List.getElem_of_mem hx
    rw [List.length_take] at hj
    have := hn j (by omega)
    simp only [List.getElem_take]
    simpa using this
theorem del_none {α : Type} (p : α → Bool) (l : List α) (h : l.findIdx? p = none) : l.filter (fun x => !p x) = l ∧ fidx p l = -1 := by
  refine ⟨?_, by simp [fidx, h]⟩
  rw [List.findIdx?_eq_none_iff] at h
  exact List.filter_eq_self.2 (fun x hx => by simpa using h x hx)
end Go.Proofs.Ytppojihmllmgnaa.Opn
