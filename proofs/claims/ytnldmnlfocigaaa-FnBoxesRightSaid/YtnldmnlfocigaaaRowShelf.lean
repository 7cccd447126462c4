/- Rows of numbers of a call's own, and what the library's laid contracts say of them ('Holds', 'putRow'). No condition. -/
import Derived.Test.YtnldmnlfocigaaaEvMore
import Derived.Sort.Grow
namespace Go.Proofs.Ytnldmnlfocigaaa.Opn
open Go.RowKit Go.Proofs.YtnldmnlfocigaaaW.PrintWords
set_option linter.unusedVariables false
set_option linter.unusedSimpArgs false
/-- A row of scalars whose block's cells have been written: what it is then. -/
theorem R_scalar_block {α : Type} {enc : α → Value} {h1 : ∀ x, (enc x).oneCell' = true} {e base g n cap : Nat} {ok : Nat → Prop} {W W' : World} {xs ys : List α} {cur cur' : Array Value}
    (h : (Kd.scalar enc h1).R e W base ok (.slice (some ⟨g, 0, none⟩) n cap) xs) (hb : W.heap[g]? = some (.cells cur e (0, 0))) (hb' : W'.heap[g]? = some (.cells cur' e (0, 0))) (hs : cur'.size = cur.size)
    (hl : ys.length = xs.length) (hc : ∀ j, j < xs.length → cur'[j]? = (ys.map enc)[j]?) : (Kd.scalar enc h1).R e W' base ok (.slice (some ⟨g, 0, none⟩) n cap) ys := by
  obtain ⟨hok, inner, ⟨ho1, ho2⟩, hr⟩ := h
  rcases ho2 with ⟨hv, _⟩ | ⟨g', cap', cur0, hv, hbase, hh, hnc, hcm, hcs, ht⟩
  · cases hv
  · injection hv with ha hn hcap
    injection ha with ha
    injection ha with hg
    subst hg hcap
    rw [hb] at hh
    injection hh with hh
    injection hh with hh
    subst hh
    refine ⟨hok, ys.map enc, ⟨by simp [Kd.scalar], .inr ⟨g, cap, cur', by rw [hn, hl], hbase, hb', by omega, hcm, by rw [hs, hcs], ?_⟩⟩, ⟨by simp [Kd.scalar], fun j p hj => ?_⟩⟩
    · apply List.ext_getElem?
      intro q
      rw [List.getElem?_take]
      by_cases hq : q < xs.length
      · rw [if_pos (by simp only [Kd.scalar, hl]; omega), Array.getElem?_toList, hc q hq]
      · rw [if_neg (by simp only [Kd.scalar, hl]; omega), List.getElem?_eq_none (by simp; omega)]
    · show ((ys.map enc).drop (j * 1)).take 1 = [enc p]
      have hj' : j < ys.length := (List.getElem?_eq_some_iff.1 hj).1
      rw [Nat.mul_one, List.drop_eq_getElem_cons (by simpa using hj')]
      rw [List.getElem?_eq_getElem hj'] at hj
      injection hj with hj
      simp [hj]
/-- .. in the words of the library's contracts. -/
theorem R_holdsI {e base g n cap : Nat} {ok : Nat → Prop} {W : World} {xs : List Int} (h : (Kd.int .i64).R e W base ok (.slice (some ⟨g, 0, none⟩) n cap) xs) :
    n = xs.length ∧ n ≤ cap ∧ n ≤ 9223372036854775807 ∧ g < W.heap.size ∧ base ≤ g ∧ ok g ∧ Go.Sort.Holds (Value.int .i64) W g 0 xs.toArray := by
  have h' := h
  obtain ⟨hok, inner, ⟨ho1, ho2⟩, hr⟩ := h
  have hg0 := hok g (by simp [Value.ownBlock])
  rcases ho2 with ⟨hv, _⟩ | ⟨g', cap', cur, hv, hbase, hh, hnc, hcm, hcs, ht⟩
  · cases hv
  · injection hv with ha hn hcap
    injection ha with ha
    injection ha with hg
    subst hg hcap
    have hmx : cap ≤ 9223372036854775807 := by unfold maxLen at hcm; omega
    refine ⟨hn, by omega, by omega, blk_lt hh, hbase, hg0, fun j hj => ⟨?_, blk_frozen hh _⟩⟩
    have hj' : j < xs.length := by simpa using hj
    have hM := hr.2 j _ (List.getElem?_eq_getElem hj')
    have hM' : (inner.drop (j * 1)).take 1 = [Value.int .i64 xs[j]] := hM
    have hin : inner[j]? = some (Value.int .i64 xs[j]) := by
      have := congrArg (fun l => l[0]?) hM'
      simpa [List.getElem?_take, List.getElem?_drop] using this
    rw [Nat.zero_add]
    have hcell := blk_cell hh j
    rw [hcell, ← Array.getElem?_toList]
    rw [← ht, List.getElem?_take] at hin
    split at hin
    · rw [hin]
      simp [getElem!_pos, hj']
    · cases hin
/-- .. and back. -/
theorem R_putI {e base g n cap : Nat} {ok : Nat → Prop} {w0 W : World} {xs ys : List Int} (h : (Kd.int .i64).R e W base ok (.slice (some ⟨g, 0, none⟩) n cap) xs) (hl : ys.length = xs.length) (q : Nat) (os : Array Obj)
    (hB : Below base w0 W) :
    (Kd.int .i64).R e (Go.Sort.grow (Go.Sort.putRow (Value.int .i64) (Go.Sort.ahead W q) g 0 ys.toArray) os) base ok (.slice (some ⟨g, 0, none⟩) n cap) ys ∧
    Below base w0 (Go.Sort.grow (Go.Sort.putRow (Value.int .i64) (Go.Sort.ahead W q) g 0 ys.toArray) os) ∧ Kept W (Go.Sort.grow (Go.Sort.putRow (Value.int .i64) (Go.Sort.ahead W q) g 0 ys.toArray) os) (fun k => k = g) := by
  obtain ⟨hn, hnc, hmx, hlt, hbase, hg0, _⟩ := R_holdsI h
  obtain ⟨inner, ho⟩ := Kd.R_own h
  obtain ⟨cur, hb⟩ := own_typed ho g (by simp [Value.ownBlock])
  have hfit : xs.length ≤ cur.size := by
    have h' := h
    obtain ⟨_, inner', ⟨_, ho2⟩, _⟩ := h'
    rcases ho2 with ⟨hv, _⟩ | ⟨g', cap', cur0, hv, _, hh, hnc', _, hcs, _⟩
    · cases hv
    · injection hv with ha hn' hcap
      injection ha with ha
      injection ha with hg
      subst hg
      rw [hb] at hh
      injection hh with hh
      injection hh with hh
      subst hh
      rw [hcs]
      simp only [Kd.int, Kd.scalar]
      omega
  have hsz : (Go.Sort.putRow (Value.int .i64) (Go.Sort.ahead W q) g 0 ys.toArray).heap.size = W.heap.size := by simp [Go.Sort.putRow, Go.Sort.mapBlock, Go.Sort.ahead]
  have hold : ∀ k, k < W.heap.size → (Go.Sort.grow (Go.Sort.putRow (Value.int .i64) (Go.Sort.ahead W q) g 0 ys.toArray) os).heap[k]? = (Go.Sort.putRow (Value.int .i64) (Go.Sort.ahead W q) g 0 ys.toArray).heap[k]? := fun k hk => Go.Sort.heap_grow_old _ _ (by rw [hsz]; exact hk)
  have hother : ∀ k, k < W.heap.size → k ≠ g → (Go.Sort.grow (Go.Sort.putRow (Value.int .i64) (Go.Sort.ahead W q) g 0 ys.toArray) os).heap[k]? = W.heap[k]? := fun k hk hne => by
    rw [hold k hk]
    simp only [Go.Sort.putRow, Go.Sort.mapBlock, Go.Sort.ahead, Array.getElem?_modify]
    rw [if_neg (fun he => hne he.symm)]
  have hrow : (Go.Sort.grow (Go.Sort.putRow (Value.int .i64) (Go.Sort.ahead W q) g 0 ys.toArray) os).heap[g]? = some (.cells (Go.Sort.putCells (Value.int .i64) 0 ys.toArray cur) e (0, 0)) := by
    rw [hold g hlt]
    simp [Go.Sort.putRow, Go.Sort.mapBlock, Go.Sort.ahead, Array.getElem?_modify, hb, Go.Sort.onCells]
  refine ⟨R_scalar_block h hb hrow (by simp [Go.Sort.putCells]) hl (fun j hj => ?_), ⟨hB.os, hB.tape, hB.output, ?_, fun k hk => ?_⟩, ?_, fun k hk hne => hother k hk hne⟩
  · have hj' : j < cur.size := by omega
    simp only [Go.Sort.putCells, Array.getElem?_mapIdx, Array.getElem?_eq_getElem hj', Option.map_some, List.size_toArray]
    rw [if_pos ⟨by omega, by omega⟩, List.getElem?_map, List.getElem?_eq_getElem (by omega)]
    simp [getElem!_pos, show j < ys.length by omega]
  · rw [Go.Sort.size_grow, hsz]
    exact Nat.le_trans hB.size (Nat.le_add_right _ _)
  · rw [hother k (by omega) (by omega)]
    exact hB.block k hk
  · rw [Go.Sort.size_grow, hsz]
    exact Nat.le_add_right _ _
end Go.Proofs.Ytnldmnlfocigaaa.Opn
