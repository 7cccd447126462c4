/- slices.Sort at numbers, as a contract of the engine. No condition. -/
import Derived.Test.YtpihkhknehadbaaGreatEngTop
import Derived.Test.YtpihkhknehadbaaGreatEngWords
import Derived.Sort.Grow
namespace Go.Proofs.YtpihkhknehadbaaGreat.Eng
open Go.RowKit
set_option linter.unusedVariables false
theorem sortL_len (l : List (Int × Unit)) : (sortL l).length = l.length := by simp [sortL]
theorem sort_ok {P : Program} {f : Nat} (hHas : FnHas P f)
    (hS : ∀ (blk off cap : Nat) (zs : List Int) (w : World), Go.Sort.Holds (Value.int .i64) w blk off zs.toArray → blk < w.heap.size → zs.length < 4611686018427387904 → Calls P f #[.slice (some ⟨blk, off, none⟩) zs.length cap] w fun e w' =>
      e = .returned (.tuple #[]) ∧ ∃ n os, w' = Go.Sort.grow (Go.Sort.putRow (Value.int .i64) (Go.Sort.ahead w n) blk off (zs.mergeSort fun x y => decide (x ≤ y)).toArray) os)
    (hE : ∀ (p : Option Addr) (cap : Nat) (w : World), Calls P f #[.slice p 0 cap] w fun e w' => e = .returned (.tuple #[]) ∧ w' = w) : FnOk P f sortSig := by
  refine ⟨hHas, fun k x y hy G w vals hall => ?_⟩
  obtain ⟨l, u⟩ := x
  change List (Int × Unit) at l
  have hy : sortI k l = some y := hy
  unfold sortI at hy
  split at hy
  case isFalse => cases hy
  rename_i hsz
  cases hy
  cases vals with
  | nil => exact hall.elim
  | cons v vals =>
    cases vals with
    | cons _ _ => exact hall.2.elim
    | nil =>
      obtain ⟨a, c, ev, hrow, _⟩ : ∃ a c, v = .slice a (List.length l) c ∧ rowG G w (flatV (vw G w)) (.of 0 0) (.cons (.int .i64) .nil) l a c ∧ (false = true → (0 : Nat) = 0) := hall.1
      have hrow0 := hrow
      obtain ⟨hlc, hrow⟩ := hrow
      have hlc : l.length ≤ c := hlc
      have fin : ∀ (G' : Gh) (w' : World), rowG G' w' (flatV (vw G' w')) (.of 0 0) (.cons (.int .i64) .nil) (sortL l) a c → hAll G' w' sortSig.res (sortL l, ()) sortSig.rm ([] ++ lentV sortSig.pm [v]) (labs 0 (idsAll sortSig.res sortSig.rm)) := fun G' w' h => ⟨⟨a, c, by rw [ev]; show Value.slice a (List.length l) c = Value.slice a (List.length (sortL l)) c; rw [sortL_len], h, fun e => by cases e⟩, trivial⟩
      cases hl : l with
      | nil =>
        have hc0 : Calls P f #[v] w fun e w' => e = .returned (.tuple #[]) ∧ w' = w := by rw [ev, hl]; exact hE a c w
        refine hc0.mono ?_
        rintro e w' ⟨e1, e2⟩
        subst e1; subst e2
        have hs : sortL [] = [] := by simp [sortL]
        refine ⟨[], G, rfl, rfl, ?_, Out.refl _ _⟩
        have := fin G w' (by rw [hl, hs]; rw [hl] at hrow0; exact hrow0)
        rw [hl] at this; exact this
      | cons z zs =>
        have hpos : 0 < l.length := by rw [hl]; simp
        rcases hrow with h0 | ⟨b, o, ea, h1, h2⟩
        · omega
        · rw [← hl]
          have h2 : ∀ i, i < l.length → elG (at_ w) (flatV (vw G w)) (.cons (.int .i64) .nil) (rd (.cons (.int .i64) .nil) l i) b (o + i * (Ty.cons (.int .i64) .nil).size) (i * (Ty.cons (.int .i64) .nil).size) := h2
          have hel : ∀ i, i < l.length → at_ w b (o + i) = some (.int .i64 (l.getD i (0, ())).1) := fun i hi => by
            obtain ⟨⟨v', e1, e2⟩, _⟩ := h2 i hi
            have e2 : v' = .int .i64 (rd (.cons (.int .i64) .nil) l i).1 := e2
            rw [show i * (Ty.cons (.int .i64) .nil).size = i by simp [Ty.size]] at e1
            rw [e1, e2]; rfl
          have hcell : ∀ j, j < c → G.own b (o + j) = .of 0 0 ∧ w.frozen? ⟨b, o + j, none⟩ = false ∧ (at_ w b (o + j)).isSome = true := fun j hj => h1 j (by simpa [Ty.size] using hj)
          have hblt : b < w.heap.size := lt_of_at (hel 0 hpos)
          have hH : Go.Sort.Holds (Value.int .i64) w b o (l.map Prod.fst).toArray := fun j hj => by
            have hj' : j < l.length := by simpa using hj
            refine ⟨?_, (hcell j (by omega)).2.1⟩
            have := hel j hj'
            rw [show w.cell? ⟨b, o + j, none⟩ = at_ w b (o + j) from rfl, this]
            simp [List.getD_eq_getElem?_getD, hj', getElem!_pos]
          have hS' := hS b o c (l.map Prod.fst) w hH hblt (by simpa using hsz)
          rw [List.length_map, ← ea] at hS'
          have ev2 : ([v] : List Value).toArray = #[.slice a l.length c] := by rw [ev]
          rw [← ev2] at hS'
          refine hS'.mono ?_
          rintro e w' ⟨e1, q, os, ew⟩
          subst e1
          generalize hd : ((l.map Prod.fst).mergeSort fun x y => decide (x ≤ y)) = d at ew
          have hdl : d.length = l.length := by rw [← hd]; simp
          have hwsz : (Go.Sort.putRow (Value.int .i64) (Go.Sort.ahead w q) b o d.toArray).heap.size = w.heap.size := by simp [Go.Sort.putRow, Go.Sort.mapBlock, Go.Sort.ahead]
          have hsz' : w'.heap.size = w.heap.size + os.size := by rw [ew, Go.Sort.size_grow, hwsz]
          have hblk : ∀ k, k < w.heap.size → w'.heap[k]? = if k = b then (w.heap[b]?).map (Go.Sort.onCells (Go.Sort.putCells (Value.int .i64) o d.toArray)) else w.heap[k]? := fun k hk => by
            rw [ew, Go.Sort.heap_grow_old _ _ (by rw [hwsz]; exact hk)]
            simp only [Go.Sort.putRow, Go.Sort.mapBlock, Go.Sort.ahead, Array.getElem?_modify]
            by_cases e : b = k
            · subst e; simp
            · rw [if_neg e, if_neg (Ne.symm e)]
          have hshp : ∀ k, k < w.heap.size → shp w' k = shp w k := fun k hk => by
            unfold shp
            rw [hblk k hk]
            split
            · rename_i e
              subst e
              cases w.heap[k]? with
              | none => rfl
              | some x => cases x <;> simp [Go.Sort.onCells, shpO, Go.Sort.putCells]
            · rfl
          have hfr : ∀ k p, k < w.heap.size → w'.frozen? ⟨k, p, none⟩ = w.frozen? ⟨k, p, none⟩ := fun k p hk => by
            unfold World.frozen?
            simp only [hblk k hk]
            by_cases e : k = b
            · subst e
              rw [if_pos rfl]
              cases w.heap[k]? with
              | none => rfl
              | some x => cases x <;> simp [Go.Sort.onCells]
            · rw [if_neg e]
          have hfz : ∀ k p, k < w.heap.size → fz w' k p = fz w k p := fun k p hk => by unfold fz; rw [hfr k p hk, hshp k hk]
          have hat : ∀ k p, k < w.heap.size → ¬ (k = b ∧ o ≤ p ∧ p < o + d.length) → at_ w' k p = at_ w k p := fun k p hk hn => by
            unfold at_ World.cell?
            simp only [hblk k hk]
            by_cases e : k = b
            · subst e
              rw [if_pos rfl]
              cases hw : w.heap[k]? with
              | none => simp
              | some x =>
                cases x with
                | cells cs t fr =>
                  simp only [Option.map_some, Go.Sort.onCells, Go.Sort.putCells, Array.getElem?_mapIdx, Option.isSome_none, Bool.false_eq_true, if_false]
                  cases hc : cs[p]? with
                  | none => rfl
                  | some z => simp only [Option.map_some, List.size_toArray]; rw [if_neg (fun h => hn ⟨rfl, h⟩)]
                | _ => rfl
            · rw [if_neg e]
          have hat2 : ∀ j, j < l.length → at_ w' b (o + j) = some (.int .i64 (d.getD j 0)) := fun j hj => by
            have h0 := hel j hj
            unfold at_ World.cell? at h0 ⊢
            simp only at h0 ⊢
            rw [hblk b hblt, if_pos rfl]
            cases hw : w.heap[b]? with
            | none => rw [hw] at h0; cases h0
            | some x =>
              rw [hw] at h0
              cases x with
              | cells cs t fr =>
                simp only [Option.isSome_none, Bool.false_eq_true, if_false] at h0
                simp only [Option.map_some, Go.Sort.onCells, Go.Sort.putCells, Array.getElem?_mapIdx, Option.isSome_none, Bool.false_eq_true, if_false, h0, List.size_toArray]
                rw [if_pos ⟨by omega, by omega⟩]
                have hj' : j < d.length := by omega
                simp [List.getD_eq_getElem?_getD, hj', getElem!_pos]
              | _ => cases h0
          let G' : Gh := ⟨fun b o => if b < w.heap.size then G.own b o else .hid, G.anch⟩
          have hlk : ∀ L, L ≠ .of 0 0 → Lk G w G' w' L L := fun L hL b' o' hb' e => by
            refine ⟨by show (if _ then _ else _) = _; rw [if_pos hb']; exact e, hat b' o' hb' (fun ⟨e1, e2, e3⟩ => ?_), hfz b' o' hb'⟩
            subst e1
            have := (hcell (o' - o) (by omega)).1
            rw [show o + (o' - o) = o' by omega, e] at this
            exact hL this
          have hsl : sortL l = d.map fun x => (x, ()) := by unfold sortL; rw [hd]
          have := fin G' w' ⟨by show (sortL l).length ≤ c; rw [sortL_len l]; exact hlc, .inr ⟨b, o, ea, fun j hj => ?_, fun i hi => ?_⟩⟩
          · refine ⟨[], G', rfl, rfl, this, ⟨?_, ?_, ?_, by omega, hlk _ (fun e => by cases e), hlk _ (fun e => by cases e)⟩⟩
            · rw [ew]; rfl
            · rw [ew]; rfl
            · rw [ew]; rfl
          · have hj : j < c := by simpa [Ty.size] using hj
            obtain ⟨c1, c2, c3⟩ := hcell j hj
            refine ⟨by show (if _ then _ else _) = _; rw [if_pos hblt]; exact c1, by rw [hfr b _ hblt]; exact c2, ?_⟩
            by_cases hjl : j < l.length
            · rw [hat2 j hjl]; rfl
            · rw [hat b _ hblt (fun h => by omega)]; exact c3
          · have hi : i < (sortL l).length := hi
            rw [sortL_len] at hi
            rw [show i * (Ty.cons (.int .i64) .nil).size = i by simp [Ty.size]]
            refine ⟨⟨_, hat2 i hi, ?_⟩, trivial⟩
            have hi' : i < d.length := by omega
            have e0 : ∀ z : Int × Unit, (d.map fun x => (x, ())).getD i z = (d[i], ()) := fun z => by
              rw [List.getD_eq_getElem?_getD, List.getElem?_map, List.getElem?_eq_getElem hi']; rfl
            show Value.int .i64 (d.getD i 0) = .int .i64 ((sortL l).getD i ((0 : Int), ())).1
            rw [hsl, e0, List.getD_eq_getElem?_getD, List.getElem?_eq_getElem hi']; rfl
end Go.Proofs.YtpihkhknehadbaaGreat.Eng
