-- PRINTED by print.py (a twelfth state) out of the translation. Not trusted: Lean checks it.
import Derived.Test.YtppojihmllmgnaaF
import Derived.Test.YtppojihmllmgnaaF25
namespace Go.Proofs.Ytppojihmllmgnaa.F
open Go.Proofs.Ytppojihmllmgnaa.Opn
open Go.RowKit Go.Proofs.YtppojihmllmgnaaW.PrintWords Go.Proofs.YtppojihmllmgnaaW.PrintLast
set_option linter.unusedVariables false
set_option linter.unusedSimpArgs false

/-! ### impl_lastNote: function 66 -/
def lastP {α : Type} (p : α → Bool) (l : List α) : Option α := l.reverse.find? p
theorem lastP_hit {α : Type} (p : α → Bool) (l : List α) (d : α) (i : Nat) (hi : i < l.length) (hp : p (l.getD i d) = true) (hn : ∀ j, i < j → j < l.length → p (l.getD j d) = false) : lastP p l = some (l.getD i d) := by
 have hs : l = l.take i ++ l.getD i d :: l.drop (i + 1) := by
  conv => lhs; rw [← List.take_append_drop i l]
  rw [List.drop_eq_getElem_cons hi, List.getD_eq_getElem?_getD, List.getElem?_eq_getElem hi]
  rfl
 have hd : ∀ x ∈ (l.drop (i + 1)).reverse, p x = false := by
  intro x hx
  rw [List.mem_reverse] at hx
  obtain ⟨j, hj, rfl⟩ := List.getElem_of_mem hx
  rw [List.length_drop] at hj
  have := hn (i + 1 + j) (by omega) (by omega)
  rwa [List.getD_eq_getElem?_getD, List.getElem?_eq_getElem (by omega), Option.getD_some, ← List.getElem_drop] at this
 unfold lastP
 conv => lhs; rw [hs]
 rw [List.reverse_append, List.reverse_cons, List.append_assoc, List.find?_append]
 rw [List.find?_eq_none.2 (fun x hx => by simpa using hd x hx)]
 rw [List.getD_eq_getElem?_getD] at hp
 simp [hp]
theorem lastP_miss {α : Type} (p : α → Bool) (l : List α) (d : α) (hn : ∀ j, j < l.length → p (l.getD j d) = false) : lastP p l = none := by
 unfold lastP
 rw [List.find?_eq_none]
 intro x hx
 rw [List.mem_reverse] at hx
 obtain ⟨j, hj, rfl⟩ := List.getElem_of_mem hx
 have := hn j hj
 rw [List.getD_eq_getElem?_getD, List.getElem?_eq_getElem hj] at this
 simpa using this
theorem impl_lastNote.put5 {w wr : World} {B : Nat} {t : TypeId} {a0 a1 a2 a3 a4 : Value} (b0 b1 b2 b3 b4 : Value) (h : wr.heap[B]? = some (.cells #[a0, a1, a2, a3, a4] t (0, 0))) (hb : Below w.heap.size w wr) (hB : w.heap.size ≤ B) :
  (((((wr.setCell ⟨B, 0, none⟩ b0).setCell ⟨B, 1, none⟩ b1).setCell ⟨B, 2, none⟩ b2).setCell ⟨B, 3, none⟩ b3).setCell ⟨B, 4, none⟩ b4).heap[B]? = some (.cells #[b0, b1, b2, b3, b4] t (0, 0)) ∧
  Below w.heap.size w (((((wr.setCell ⟨B, 0, none⟩ b0).setCell ⟨B, 1, none⟩ b1).setCell ⟨B, 2, none⟩ b2).setCell ⟨B, 3, none⟩ b3).setCell ⟨B, 4, none⟩ b4) :=
 ⟨blk_put (cs := #[b0, b1, b2, b3, a4]) (blk_put (cs := #[b0, b1, b2, a3, a4]) (blk_put (cs := #[b0, b1, a2, a3, a4]) (blk_put (cs := #[b0, a1, a2, a3, a4]) (blk_put h 0 _ rfl) 1 _ rfl) 2 _ rfl) 3 _ rfl) 4 _ rfl,
  below_set (below_set (below_set (below_set (below_set hb hB) hB) hB) hB) hB⟩
set_option maxHeartbeats 4000000 in
set_option maxRecDepth 100000 in
theorem impl_lastNote.callsFn (p : S25 → Bool) (g : Nat) (lb : Array Value) (eg : ∀ args w, (callFunc g args).run Try.prog w = .ok (.enter g args) w) (k : Nat) (b : Bool) (o : Option S25) (A0 : Option Addr) (c0 : Nat) (l0 : List S25) (ho : (if b then lastP p l0 else none) = o) (w : World) (hr0 : Kd.C k25 w A0 l0.length l0) (hc0 : l0.length ≤ c0) (hok : impl_NotesOk.f k l0 = some b)
  (hp : ∀ (W : World) (x : S25), Below w.heap.size w W → Calls Try.prog g (#[.agg #[.int .i64 x.f0, .int .i64 x.f1, .int .i64 x.f2, .int .i64 x.f3, .int .i64 x.f4]] ++ lb) W fun e w' => e = .returned (.bool (p x)) ∧ Below W.heap.size W w') :
  Calls Try.prog 66 #[.slice A0 l0.length c0, .func (.func g) #[] lb] w fun e w' =>
   e = .returned (.tuple #[(fun (x : S25) => .agg #[.int .i64 x.f0, .int .i64 x.f1, .int .i64 x.f2, .int .i64 x.f3, .int .i64 x.f4]) (o.getD z25), .bool o.isSome]) ∧ Below w.heap.size w w' := by
 have hu25 := Try.underlying25
 have hm := Kd.C_max hr0
 have HR0 := Aside0.mk hr0
 have HP := Aside0.mk hp
 have HN := Aside0.mk hok
 have HC := Aside0.mk hc0
 have HO := Aside0.mk ho
 clear hr0 hp hok hc0 ho
 go_enter Try.func66, Try.ntmps66
 go_wp2_with fail
 go_loopg [6] l0.length (fun gg s6 wr => ∃ (kk : Nat) (x : Int), kk ≤ l0.length ∧ kk ≤ gg ∧ s6 = .int .i64 x ∧ Aside0 (x = (kk : Int) - 1) ∧ Aside0 (Below w.heap.size w wr) ∧ Aside0 (wr.heap[w.heap.size]? = some (.cells #[.int .i64 0, .int .i64 0, .int .i64 0, .int .i64 0, .int .i64 0] 25 (0, 0))) ∧ Aside0 (∀ j, kk ≤ j → j < l0.length → p (l0.getD j z25) = false))
 case atStart => exact ⟨l0.length, _, Nat.le_refl _, Nat.le_refl _, by first | rfl | simp, ⟨by first | rfl | (unfold wrap64; omega) | simp⟩, ⟨below_alloc (Below.refl _ w) _⟩, ⟨blk_new w _⟩, ⟨fun j h1 h2 => absurd h2 (by omega)⟩⟩
 case round =>
  obtain ⟨kk, x, hkk, hg, rfl, X, BW, BX, A⟩ := hrel
  by_cases h0 : 0 ≤ x
  ·
   have d1 : decide (0 ≤ x) = true := decide_eq_true h0
   have d2 : decide (x ≥ 0) = true := decide_eq_true h0
   go_wp2_with fail
   refine (impl_NotesOk.calls k A0 c0 l0 b _ (Kd.C_below HR0.out BW.out) HC.out HN.out).mono ?_
   rintro e w1 ⟨rfl, hb1⟩
   have BX1 := Aside0.mk (blk_below BX.out hb1)
   have BW1 := Aside0.mk (below_step BW.out hb1)
   clear hb1 BX BW
   cases b with
   | false =>
    obtain rfl : o = none := by have := HO.out; simpa using this.symm
    have q0 : w1.cell? ⟨w.heap.size, 0, none⟩ = some (.int .i64 0) := (blk_cell BX1.out 0).trans rfl
    have q1 : w1.cell? ⟨w.heap.size, 1, none⟩ = some (.int .i64 0) := (blk_cell BX1.out 1).trans rfl
    have q2 : w1.cell? ⟨w.heap.size, 2, none⟩ = some (.int .i64 0) := (blk_cell BX1.out 2).trans rfl
    have q3 : w1.cell? ⟨w.heap.size, 3, none⟩ = some (.int .i64 0) := (blk_cell BX1.out 3).trans rfl
    have q4 : w1.cell? ⟨w.heap.size, 4, none⟩ = some (.int .i64 0) := (blk_cell BX1.out 4).trans rfl
    have f0 : ∀ i, w1.frozen? ⟨w.heap.size, i, none⟩ = false := fun i => blk_frozen BX1.out i
    go_wp2
    obtain ⟨e1, e2⟩ := impl_lastNote.put5 (.int .i64 0) (.int .i64 0) (.int .i64 0) (.int .i64 0) (.int .i64 0) BX1.out BW1.out (Nat.le_refl _)
    exact bodyPost_ret (results_ct rfl _ _ w.heap.size 25 _ (0, 0) _ rfl e1 Try.underlying25 rfl (by kernel_rfl)) rfl ⟨rfl, e2⟩
   | true =>
    have hxl : x < (l0.length : Int) := by have := X.out; omega
    have d3 : decide (x < (l0.length : Int)) = true := decide_eq_true hxl
    obtain ⟨ad, e, x0, x1, x2, x3, x4⟩ := at_T25 HR0.out x h0 hxl
    subst e
    obtain ⟨y, hy⟩ : ∃ y, rd_T25 l0 x = y := ⟨_, rfl⟩
    rw [hy] at x0 x1 x2 x3 x4
    have X0 := Aside0.mk x0
    have X1 := Aside0.mk x1
    have X2 := Aside0.mk x2
    have X3 := Aside0.mk x3
    have X4 := Aside0.mk x4
    replace x0 := (BW1.out.cell (World.block_lt_of_cell? w _ x0)).trans x0
    replace x1 := (BW1.out.cell (World.block_lt_of_cell? w _ x1)).trans x1
    replace x2 := (BW1.out.cell (World.block_lt_of_cell? w _ x2)).trans x2
    replace x3 := (BW1.out.cell (World.block_lt_of_cell? w _ x3)).trans x3
    replace x4 := (BW1.out.cell (World.block_lt_of_cell? w _ x4)).trans x4
    have Y := Aside0.mk hy
    clear hy
    have hcall := Aside0.mk (HP.out w1 y BW1.out)
    go_wp2_with fail
    refine hcall.out.mono ?_
    rintro e w2 ⟨rfl, hb2⟩
    have BX2 := Aside0.mk (blk_below BX1.out hb2)
    have BW2 := Aside0.mk (below_step BW1.out hb2)
    replace x0 := (BW2.out.cell (World.block_lt_of_cell? w _ X0.out)).trans X0.out
    replace x1 := (BW2.out.cell (World.block_lt_of_cell? w _ X1.out)).trans X1.out
    replace x2 := (BW2.out.cell (World.block_lt_of_cell? w _ X2.out)).trans X2.out
    replace x3 := (BW2.out.cell (World.block_lt_of_cell? w _ X3.out)).trans X3.out
    replace x4 := (BW2.out.cell (World.block_lt_of_cell? w _ X4.out)).trans X4.out
    clear hb2 hcall BX1 BW1 X0 X1 X2 X3 X4
    have hg : l0.getD (kk - 1) z25 = y := by
     have h1 : x.toNat = kk - 1 := by have := X.out; omega
     rw [← Y.out, ← h1]; rfl
    have G := Aside0.mk hg
    clear hg
    have hkp : 0 < kk := by have := X.out; omega
    cases hq : p y with
    | true =>
     have ho2 : o = some y := by
      have h := HO.out
      rw [lastP_hit p l0 z25 (kk - 1) (by omega) (by rw [G.out]; exact hq) (fun j h1 h2 => A.out j (by omega) h2), G.out] at h
      simpa using h.symm
     subst ho2
     have q0 : w2.cell? ⟨w.heap.size, 0, none⟩ = some (.int .i64 0) := (blk_cell BX2.out 0).trans rfl
     have q1 : w2.cell? ⟨w.heap.size, 1, none⟩ = some (.int .i64 0) := (blk_cell BX2.out 1).trans rfl
     have q2 : w2.cell? ⟨w.heap.size, 2, none⟩ = some (.int .i64 0) := (blk_cell BX2.out 2).trans rfl
     have q3 : w2.cell? ⟨w.heap.size, 3, none⟩ = some (.int .i64 0) := (blk_cell BX2.out 3).trans rfl
     have q4 : w2.cell? ⟨w.heap.size, 4, none⟩ = some (.int .i64 0) := (blk_cell BX2.out 4).trans rfl
     have f0 : ∀ i, w2.frozen? ⟨w.heap.size, i, none⟩ = false := fun i => blk_frozen BX2.out i
     clear hq
     go_wp2
     obtain ⟨e1, e2⟩ := impl_lastNote.put5 (.int .i64 y.f0) (.int .i64 y.f1) (.int .i64 y.f2) (.int .i64 y.f3) (.int .i64 y.f4) BX2.out BW2.out (Nat.le_refl _)
     exact bodyPost_ret (results_ct rfl _ _ w.heap.size 25 _ (0, 0) _ rfl e1 Try.underlying25 rfl (by kernel_rfl)) rfl ⟨rfl, e2⟩
    | false =>
     have Q := Aside0.mk hq
     clear hq
     go_wp2
     go_roundg (kk - 1)
     case measure => omega
     case rel =>
      refine ⟨kk - 1, _, by omega, by omega, rfl, ⟨?_⟩, BW2, BX2, ⟨fun j h1 h2 => ?_⟩⟩
      ·
       have := X.out; first | omega | (rw [Opn.wrap_id (by omega) (by omega)]; omega)
      ·
       by_cases e : j = kk - 1
       ·
        subst e; rw [G.out]; exact Q.out
       ·
        exact A.out j (by omega) h2
  ·
   have d1 : decide (0 ≤ x) = false := decide_eq_false h0
   have d2 : decide (x ≥ 0) = false := decide_eq_false h0
   obtain rfl : o = none := by
    have h := HO.out
    have hk0 : kk = 0 := by have := X.out; omega
    rw [lastP_miss p l0 z25 (fun j hj => A.out j (by omega) hj)] at h
    cases b <;> simpa using h.symm
   have q0 : wr.cell? ⟨w.heap.size, 0, none⟩ = some (.int .i64 0) := (blk_cell BX.out 0).trans rfl
   have q1 : wr.cell? ⟨w.heap.size, 1, none⟩ = some (.int .i64 0) := (blk_cell BX.out 1).trans rfl
   have q2 : wr.cell? ⟨w.heap.size, 2, none⟩ = some (.int .i64 0) := (blk_cell BX.out 2).trans rfl
   have q3 : wr.cell? ⟨w.heap.size, 3, none⟩ = some (.int .i64 0) := (blk_cell BX.out 3).trans rfl
   have q4 : wr.cell? ⟨w.heap.size, 4, none⟩ = some (.int .i64 0) := (blk_cell BX.out 4).trans rfl
   have f0 : ∀ i, wr.frozen? ⟨w.heap.size, i, none⟩ = false := fun i => blk_frozen BX.out i
   go_wp2
   obtain ⟨e1, e2⟩ := impl_lastNote.put5 (.int .i64 0) (.int .i64 0) (.int .i64 0) (.int .i64 0) (.int .i64 0) BX.out BW.out (Nat.le_refl _)
   exact bodyPost_ret (results_ct rfl _ _ w.heap.size 25 _ (0, 0) _ rfl e1 Try.underlying25 rfl (by kernel_rfl)) rfl ⟨rfl, e2⟩

end Go.Proofs.Ytppojihmllmgnaa.F
