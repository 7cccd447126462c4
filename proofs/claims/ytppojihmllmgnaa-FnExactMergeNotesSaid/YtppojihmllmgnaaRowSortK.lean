/- Rows of a call's own whose elements have some cells each, and what the library's laid contracts say of them ('HoldsK', 'putRowK'). No condition. -/
import Derived.Test.YtppojihmllmgnaaRowDel
import Derived.Shelf.GgSortFunc.RowK
namespace Go.Proofs.Ytppojihmllmgnaa.Opn
open Go.RowKit Go.Proofs.YtppojihmllmgnaaW.PrintWords
set_option linter.unusedVariables false
set_option linter.unusedSimpArgs false
section
variable {α : Type} [Inhabited α] {d : Kd α} {e base g n cap : Nat} {ok : Nat → Prop} {W w0 : World} {xs ys : List α}
theorem R_holdsK (enc : α → List Value) (hk : ∀ x, (enc x).length = d.sz) (hs : 0 < d.sz) (hopen : ∀ {w : World} {base : Nat} {ok : Nat → Prop} {x : α} {cs : List Value}, d.M w base ok x cs → cs = enc x)
    (h : d.R e W base ok (.slice (some ⟨g, 0, none⟩) n cap) xs) : n = xs.length ∧ g < W.heap.size ∧ ok g ∧ Go.Sort.HoldsK enc d.sz W g 0 xs.toArray := by
  obtain ⟨hok, inner, ⟨ho1, ho2⟩, hr⟩ := h
  have hg0 := hok g (by simp [Value.ownBlock])
  rcases ho2 with ⟨hv, _⟩ | ⟨g', cap', cur, hv, hbase, hh, hnc, hcm, hcs, ht⟩
  · cases hv
  · injection hv with ha hn hcap
    injection ha with ha
    injection ha with hg
    subst hg hcap
    refine ⟨hn, blk_lt hh, hg0, fun t ht' => ?_⟩
    rw [Go.Sort.size_flatK] at ht'
    have ht2 : t < xs.length * d.sz := by simpa using ht'
    refine ⟨?_, blk_frozen hh _⟩
    rw [Go.Sort.get_flatK _ _ _ _ ht', Nat.zero_add]
    have hj : t / d.sz < xs.length := (Nat.div_lt_iff_lt_mul hs).2 ht2
    have hM := hopen (hr.2 (t / d.sz) _ (List.getElem?_eq_getElem hj))
    have hm : t % d.sz < d.sz := Nat.mod_lt _ hs
    have hin : inner[t]? = some ((enc xs[t / d.sz])[t % d.sz]'(by rw [hk]; exact hm)) := by
      have h1 : ((inner.drop (t / d.sz * d.sz)).take d.sz)[t % d.sz]? = (enc xs[t / d.sz])[t % d.sz]? := by rw [hM]
      rw [List.getElem?_take, if_pos hm, List.getElem?_drop, Nat.mul_comm, Nat.div_add_mod] at h1
      rw [h1, List.getElem?_eq_getElem (by rw [hk]; exact hm)]
    rw [blk_cell hh t, ← Array.getElem?_toList]
    rw [← ht, List.getElem?_take, if_pos (by rw [← hn] at ht2 ⊢; exact ht2)] at hin
    rw [hin]
    simp [getElem!_pos, hj, hk, hm]
theorem R_putK (enc : α → List Value) (hk : ∀ x, (enc x).length = d.sz) (hs : 0 < d.sz) (hmk : ∀ (w : World) (base : Nat) (ok : Nat → Prop) (x : α), d.M w base ok x (enc x))
    (h : d.R e W base ok (.slice (some ⟨g, 0, none⟩) n cap) xs) (hl : ys.length = xs.length) (q : Nat) (os : Array Obj) (hB : Below base w0 W) :
    d.R e (Go.Sort.grow (Go.Sort.putRowK enc d.sz (Go.Sort.ahead W q) g 0 ys.toArray) os) base ok (.slice (some ⟨g, 0, none⟩) n cap) ys ∧
    Below base w0 (Go.Sort.grow (Go.Sort.putRowK enc d.sz (Go.Sort.ahead W q) g 0 ys.toArray) os) ∧ Kept W (Go.Sort.grow (Go.Sort.putRowK enc d.sz (Go.Sort.ahead W q) g 0 ys.toArray) os) (fun k => k = g) := by
  obtain ⟨hok, inner, ⟨ho1, ho2⟩, hr⟩ := h
  rcases ho2 with ⟨hv, _⟩ | ⟨g', cap', cur, hv, hbase, hh, hnc, hcm, hcs, ht⟩
  · cases hv
  · injection hv with ha hn hcap
    injection ha with ha
    injection ha with hg
    subst hg hcap
    have hlt := blk_lt hh
    have hmul : xs.length * d.sz ≤ cap * d.sz := Nat.mul_le_mul_right _ hnc
    have hsz : (Go.Sort.putRowK enc d.sz (Go.Sort.ahead W q) g 0 ys.toArray).heap.size = W.heap.size := by simp [Go.Sort.putRowK, Go.Sort.putRow, Go.Sort.mapBlock, Go.Sort.ahead]
    have hold : ∀ k, k < W.heap.size → (Go.Sort.grow (Go.Sort.putRowK enc d.sz (Go.Sort.ahead W q) g 0 ys.toArray) os).heap[k]? = (Go.Sort.putRowK enc d.sz (Go.Sort.ahead W q) g 0 ys.toArray).heap[k]? := fun k hk => Go.Sort.heap_grow_old _ _ (by rw [hsz]; exact hk)
    have hother : ∀ k, k < W.heap.size → k ≠ g → (Go.Sort.grow (Go.Sort.putRowK enc d.sz (Go.Sort.ahead W q) g 0 ys.toArray) os).heap[k]? = W.heap[k]? := fun k hk hne => by
      rw [hold k hk]
      simp only [Go.Sort.putRowK, Go.Sort.putRow, Go.Sort.mapBlock, Go.Sort.ahead, Array.getElem?_modify]
      rw [if_neg (fun he => hne he.symm)]
    have hrow : (Go.Sort.grow (Go.Sort.putRowK enc d.sz (Go.Sort.ahead W q) g 0 ys.toArray) os).heap[g]? = some (.cells (Go.Sort.putCells id 0 (Go.Sort.flatK enc d.sz ys.toArray) cur) e (0, 0)) := by
      rw [hold g hlt]
      simp [Go.Sort.putRowK, Go.Sort.putRow, Go.Sort.mapBlock, Go.Sort.ahead, Array.getElem?_modify, hh, Go.Sort.onCells]
    have hfs : (Go.Sort.flatK enc d.sz ys.toArray).size = xs.length * d.sz := by rw [Go.Sort.size_flatK]; simp [hl]
    refine ⟨⟨hok, (Go.Sort.flatK enc d.sz ys.toArray).toList, ⟨by rw [Array.length_toList, hfs, hl], .inr ⟨g, cap, _, by rw [hn, hl], hbase, hrow, by omega, hcm, by simp [Go.Sort.putCells, hcs], ?_⟩⟩, ⟨by rw [Array.length_toList, hfs, hl], fun j p hj => ?_⟩⟩, ⟨hB.os, hB.tape, hB.output, ?_, fun k hk => ?_⟩, ?_, fun k hk hne => hother k hk hne⟩
    · apply List.ext_getElem?
      intro t
      rw [List.getElem?_take, hl]
      by_cases htt : t < xs.length * d.sz
      · rw [if_pos htt, Array.getElem?_toList, Array.getElem?_toList]
        have h1 : t < cur.size := by omega
        simp only [Go.Sort.putCells, Array.getElem?_mapIdx, Array.getElem?_eq_getElem h1, Option.map_some]
        rw [if_pos ⟨by omega, by omega⟩, Nat.sub_zero, Array.getElem?_eq_getElem (by omega)]
        simp [getElem!_pos, hfs, htt]
      · rw [if_neg htt, List.getElem?_eq_none (by rw [Array.length_toList]; omega)]
    · have hj' : j < ys.length := (List.getElem?_eq_some_iff.1 hj).1
      rw [List.getElem?_eq_getElem hj'] at hj
      injection hj with hj
      have hlast : j * d.sz + d.sz ≤ xs.length * d.sz := by rw [← Nat.succ_mul]; exact Nat.mul_le_mul_right _ (by omega)
      have he : ((Go.Sort.flatK enc d.sz ys.toArray).toList.drop (j * d.sz)).take d.sz = enc p := by
        apply List.ext_getElem?
        intro i
        rw [List.getElem?_take]
        by_cases hi : i < d.sz
        · have ht1 : j * d.sz + i < (Go.Sort.flatK enc d.sz ys.toArray).size := by omega
          have hg := Go.Sort.get_flatK enc d.sz ys.toArray (j * d.sz + i) (by rw [← Go.Sort.size_flatK enc]; exact ht1)
          have hd_ : (j * d.sz + i) / d.sz = j := by rw [Nat.add_comm, Nat.add_mul_div_right _ _ hs, Nat.div_eq_of_lt hi, Nat.zero_add]
          have hm : (j * d.sz + i) % d.sz = i := by rw [Nat.add_comm, Nat.add_mul_mod_self_right, Nat.mod_eq_of_lt hi]
          rw [hd_, hm, getElem!_pos (Go.Sort.flatK enc d.sz ys.toArray) (j * d.sz + i) ht1] at hg
          rw [if_pos hi, List.getElem?_drop, Array.getElem?_toList, Array.getElem?_eq_getElem ht1, hg]
          have hil : i < (enc p).length := by rw [hk]; exact hi
          rw [List.getElem?_eq_getElem hil]
          simp [getElem!_pos, hj', hj, hil]
        · rw [if_neg hi, List.getElem?_eq_none (by rw [hk]; omega)]
      rw [he]
      exact hmk _ _ _ _
    · rw [Go.Sort.size_grow, hsz]
      exact Nat.le_trans hB.size (Nat.le_add_right _ _)
    · rw [hother k (by omega) (by omega)]
      exact hB.block k hk
    · rw [Go.Sort.size_grow, hsz]
      exact Nat.le_add_right _ _
end
/-- Two lists with the same elements, both in order by a number that no two of them share, are one. -/
theorem sorted_one {α : Type} (key : α → Int) (l d1 d2 : List α) (hn : (l.map key).Nodup) (h1 : d1.Perm l) (h2 : d2.Perm l) (s1 : d1.Pairwise (fun a b => key a ≤ key b)) (s2 : d2.Pairwise (fun a b => key a ≤ key b)) : d1 = d2 := by
  refine List.Perm.eq_of_pairwise (le := fun a b => key a ≤ key b) (fun a b ha hb hab hba => ?_) s1 s2 (h1.trans h2.symm)
  have ha' := h1.mem_iff.1 ha
  have hb' := h2.mem_iff.1 hb
  obtain ⟨i, hi, rfl⟩ := List.getElem_of_mem ha'
  obtain ⟨j, hj, rfl⟩ := List.getElem_of_mem hb'
  have hkey : key l[i] = key l[j] := by omega
  unfold List.Nodup at hn
  rw [List.pairwise_iff_getElem] at hn
  rcases Nat.lt_trichotomy i j with h | h | h
  · have := hn i j (by simpa using hi) (by simpa using hj) h
    simp only [List.getElem_map] at this
    exact absurd hkey this
  · subst h; rfl
  · have := hn j i (by simpa using hj) (by simpa using hi) h
    simp only [List.getElem_map] at this
    exact absurd hkey.symm this
end Go.Proofs.Ytppojihmllmgnaa.Opn
