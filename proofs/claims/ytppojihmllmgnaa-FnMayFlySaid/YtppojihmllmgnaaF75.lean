-- PRINTED by print.py (a twelfth state) out of the translation. Not trusted: Lean checks it.
import Derived.Test.YtppojihmllmgnaaF
import Derived.Test.YtppojihmllmgnaaRowDel
import Derived.Test.YtppojihmllmgnaaF93
namespace Go.Proofs.Ytppojihmllmgnaa.F
open Go.Proofs.Ytppojihmllmgnaa.Opn
open Go.RowKit Go.Proofs.YtppojihmllmgnaaW.PrintWords Go.Proofs.YtppojihmllmgnaaW.PrintLast
set_option linter.unusedVariables false
set_option linter.unusedSimpArgs false

-- use RowDel
/-! ### slices_DeleteFunc_int_int: function 75 -/
set_option maxHeartbeats 4000000 in
set_option maxRecDepth 100000 in
theorem slices_DeleteFunc_int_int.callsFn (p : Int → Bool) (g : Nat) (lb : Array Value) (eg : ∀ args w, (callFunc g args).run Try.prog w = .ok (.enter g args) w) (P0_ : Nat → Prop) (u9000_ : Value) (l0 : List Int) (w0 w : World) (hB : Below w0.heap.size w0 w) (ho0 : Kd.R (Kd.int .i64) 3 w w0.heap.size P0_ u9000_ l0)
  (hp : ∀ (W : World) (x : Int), x ∈ l0 → Below w0.heap.size w0 W → Kept w W (fun k_ => P0_ k_) → Calls Try.prog g (#[.int .i64 x] ++ lb) W fun e w' => e = .returned (.bool (p x)) ∧ Below W.heap.size W w') :
  Calls Try.prog 75 #[u9000_, .func (.func g) #[] lb] w fun e w' => ∃ v0_ : Value, e = .returned (v0_) ∧ Kd.R (Kd.int .i64) 3 w' w0.heap.size (fun k_ => (P0_ k_ ∨ w.heap.size ≤ k_)) v0_ (l0.filter fun x => !p x) ∧ Below w0.heap.size w0 w' ∧ Kept w w' (fun k_ => P0_ k_) := by
 obtain ⟨inner, ho⟩ := Kd.R_own ho0
 obtain ⟨A, c, rfl⟩ := own_slice ho
 clear ho inner
 obtain ⟨hn, hnc, hC⟩ := Kd.R_reads' ho0
 have HMX := Aside0.mk (show l0.length ≤ 9223372036854775807 from hC.2.1)
 have HIF := Aside0.mk (slices_IndexFunc_int_int.callsFnM p g lb eg A c l0 w hC (fun W x hm hb => hp W x hm (below_step hB hb) (Kept.of_below hb _)))
 have HR := Aside0.mk ho0
 have HP := Aside0.mk hp
 have HB := Aside0.mk hB
 clear ho0 hp hB hC hn
 cases hf : l0.findIdx? p with
 | none =>
  obtain ⟨e2, e1⟩ := del_none p l0 hf
  rw [e1] at HIF
  rw [e2]
  clear e1 e2 hf
  go_enter Try.func75, Try.ntmps75
  go_wp2_with fail
  refine HIF.out.mono ?_
  rintro e w' ⟨rfl, hb0⟩
  have HB2 := Aside0.mk hb0
  clear hb0 HIF
  go_wp2
  go_ret
  exact ⟨_, rfl, Kd.R_mono (Kd.R_below HR.out HB2.out) (fun k hk => .inl hk), below_step HB.out HB2.out, Kept.of_below HB2.out _⟩
 | some k0 =>
  obtain ⟨hk, hst, e1⟩ := del_start p l0 k0 hf
  rw [e1] at HIF
  clear e1 hf
  obtain ⟨b, c', hA, hb1, hb2, cells, hb3⟩ := Kd.R_form HR.out (by omega)
  injection hA with hA _ hc
  subst hA hc
  clear cells hb3
  have ne1 : ((k0 : Int) == -1) = false := beq_eq_false_iff_ne.2 (by omega)
  have HST := Aside0.mk hst
  clear hst
  have HK0 := Aside0.mk hk
  have BGE := Aside0.mk hb1
  have BLT := Aside0.mk hb2
  clear hk hb1 hb2
  go_enter Try.func75, Try.ntmps75
  go_wp2_with fail
  refine HIF.out.mono ?_
  rintro e w' ⟨rfl, hb0⟩
  have HB2 := Aside0.mk hb0
  clear hb0 HIF
  go_wp2
  go_loopg [5, 6, 7] l0.length (fun gg s5 s6 _ wr => ∃ (i j : Nat) (row : List Int), s5 = .int .i64 i ∧ s6 = .int .i64 j ∧ Aside0 (i < j) ∧ Aside0 (j ≤ l0.length) ∧ Aside0 (l0.length - j ≤ gg) ∧ Aside0 (row.length = l0.length) ∧ Aside0 (row.take i = (l0.take j).filter (fun x => !p x)) ∧ Aside0 (row.drop j = l0.drop j) ∧ Aside0 (Kd.R (Kd.int .i64) 3 wr w0.heap.size P0_ (.slice (some ⟨b, 0, none⟩) l0.length c) row) ∧ Aside0 (Below w0.heap.size w0 wr) ∧ Aside0 (Kept w wr (fun k_ => P0_ k_)))
  case atStart =>
   have := HK0.out
   have hmx := HMX.out
   exact ⟨k0, k0 + 1, l0, rfl, by rw [wrap_succ k0 (by omega)], ⟨by omega⟩, ⟨by omega⟩, ⟨by omega⟩, ⟨rfl⟩, HST, ⟨rfl⟩, ⟨Kd.R_below HR.out HB2.out⟩, ⟨below_step HB.out HB2.out⟩, ⟨Kept.of_below HB2.out _⟩⟩
  case round =>
   clear HST HB2 HR
   obtain ⟨i, j, row, rfl, rfl, HIJ, HJ, HG, HL, HT, HD, HR, HB3, HK⟩ := hrel
   by_cases hlt : j < l0.length
   ·
    have d1 : decide ((j : Int) < (l0.length : Int)) = true := decide_eq_true (by omega)
    have d2 : decide (j < l0.length) = true := decide_eq_true hlt
    have q1 : (j : Int) < (l0.length : Int) := by omega
    have q0 : (0 : Int) ≤ (j : Int) := by omega
    obtain ⟨ce, hcl, hM, hcc, hfr⟩ := Kd.R_elem HR.out 0 (j : Int) q0 q1
    obtain rfl : ce = [Value.int .i64 (row.getD (j : Int).toNat 0)] := hM
    have hx0 := hcc 0 _ rfl
    simp only [show (Kd.int .i64).sz = 1 from rfl, Nat.mul_one, Nat.add_zero, Int.toNat_natCast] at hx0
    clear hcl hcc hfr
    obtain ⟨y, hy⟩ : ∃ y, row.getD j 0 = y := ⟨_, rfl⟩
    rw [hy] at hx0
    have HY := Aside0.mk hy
    clear hy
    have hyl : l0.getD j 0 = y := by rw [← drop_get row l0 j 0 HD.out]; exact HY.out
    have HYL := Aside0.mk hyl
    clear hyl
    have hcall := HP.out wr y (by rw [← HYL.out]; exact getD_mem l0 0 j hlt) HB3.out HK.out
    cases hq : p y with
    | true =>
     rw [hq] at hcall
     have HC := Aside0.mk hcall
     have HQ := Aside0.mk hq
     clear hcall hq
     go_wp2_with fail
     refine HC.out.mono ?_
     rintro e w1 ⟨rfl, hb⟩
     have H1 := Aside0.mk hb
     clear hb HC
     go_wp2
     go_roundg (l0.length - (j + 1))
     case measure => have := HG.out; omega
     case rel =>
      have hmx := HMX.out
      have hij := HIJ.out
      exact ⟨i, j + 1, row, rfl, by rw [wrap_succ j (by omega)], ⟨by omega⟩, ⟨by omega⟩, ⟨Nat.le_refl _⟩, HL, ⟨by rw [del_skip p l0 j y 0 hlt HYL.out HQ.out]; exact HT.out⟩, ⟨drop_more row l0 j HD.out⟩,
       ⟨Kd.R_below HR.out H1.out⟩, ⟨below_step HB3.out H1.out⟩, ⟨HK.out.below H1.out⟩⟩
    | false =>
     rw [hq] at hcall
     have HC := Aside0.mk hcall
     have HQ := Aside0.mk hq
     clear hcall hq
     go_wp2_with fail
     refine HC.out.mono ?_
     rintro e w1 ⟨rfl, hb⟩
     have HR2 := Aside0.mk (Kd.R_below HR.out hb)
     have HB4 := Aside0.mk (below_step HB3.out hb)
     have HK2 := Aside0.mk (HK.out.below hb)
     clear hb HC HR HB3 HK
     have hij := HIJ.out
     have qi : (i : Int) < (l0.length : Int) := by omega
     have q0i : (0 : Int) ≤ (i : Int) := by omega
     have di : decide ((i : Int) < (l0.length : Int)) = true := decide_eq_true qi
     have di2 : decide (i < l0.length) = true := decide_eq_true (by omega)
     obtain ⟨ce, hcl, hM, hcc, hfr⟩ := Kd.R_elem HR2.out 0 (i : Int) q0i qi
     obtain rfl : ce = [Value.int .i64 (row.getD (i : Int).toNat 0)] := hM
     have hs := Kd.R_seg HR2.out (i : Int) q0i qi (seg := [Value.int .i64 y]) (j := 0) hcl hcc (show 1 ≤ 1 from by decide) (x' := y) rfl (fun _ hk => hk)
     have hx0 := hcc 0 _ rfl
     have hf0 := hfr 0
     simp only [show (Kd.int .i64).sz = 1 from rfl, Nat.mul_one, Nat.add_zero, Int.toNat_natCast] at hx0 hf0 hs
     clear hcl hcc hfr hij
     have HS := Aside0.mk hs
     clear hs
     go_wp2_with (first | ((with_reducible refine gate_store (t := 3) (p := 33) rfl ?_); refine store_event (t := 3) (p := 33) (v := ?vo) (w1 := w1.setCell ⟨b, i, none⟩ (.int .i64 y)) ?hg ?ho ?hn ?hr ?_; (case ho => rfl); (case hg => rfl); (case hn => rfl); (case hr => first | (go_simp; done) | (go_simp; rfl)); intro w2 hw; have hg : w1.grownBy w2 (some b) := (by rw [hw]; exact HS.out.2); have hr : Kd.R (Kd.int .i64) 3 w2 w0.heap.size P0_ (.slice (some ⟨b, 0, none⟩) l0.length c) (row.set i y) := (by rw [hw]; exact HS.out.1); have hb5 : Below w0.heap.size w0 w2 := (by rw [hw]; exact below_set HB4.out BGE.out); have N1 := Aside0.mk hg; have N2 := Aside0.mk hr; have N3 := Aside0.mk hb5; clear hg hr hb5 hw))
     go_roundg (l0.length - (j + 1))
     case measure => have := HG.out; omega
     case rel =>
      have hmx := HMX.out
      have hij := HIJ.out
      have hl := HL.out
      exact ⟨i + 1, j + 1, row.set i y, by rw [wrap_succ i (by omega)], by rw [wrap_succ j (by omega)], ⟨by omega⟩, ⟨by omega⟩, ⟨Nat.le_refl _⟩, ⟨by rw [List.length_set]; exact hl⟩, ⟨by rw [del_keep p l0 j y 0 hlt HYL.out HQ.out, set_take row i y (by omega), HT.out]⟩, ⟨by rw [set_drop row i (j + 1) y (by omega)]; exact drop_more row l0 j HD.out⟩,
       N2, N3, ⟨Kept.of_grown N1.out HK2.out (fun k hk => by injection hk with hk; subst hk; obtain ⟨_, _, _, _, _, _, h6⟩ := Kd.R_block N2.out; exact .inl h6)⟩⟩
   ·
    have hjl := HJ.out
    obtain rfl : j = l0.length := by omega
    have d1 : decide ((l0.length : Int) < (l0.length : Int)) = false := decide_eq_false (by omega)
    have hij := HIJ.out
    obtain ⟨cur, hbl, hcs, hnc2, hrl, hbb, hok⟩ := Kd.R_block HR.out
    clear hrl hbb
    have hsz : cur.size = c * 1 := hcs
    obtain ⟨vs, hvl, hcl⟩ := run_clear_cells (P := Try.prog) wr 47 3 3 (.int .i64 0) 1 Try.underlying47 (fun _ => rfl) rfl (by decide) (by decide) b i (l0.length - i) (c - i) (by omega) hbl (by omega)
    have HBY := Aside0.mk (Kd.R_beyond (Kd.R_take HR.out (m := i) (by have := HL.out; omega)) i vs (show i * 1 ≤ i by omega) (by rw [hvl]; show i + (l0.length - i) * 1 ≤ c * 1; omega))
    have HOK := Aside0.mk hok
    clear hok hbl hcs hsz hvl hnc2
    have di : decide ((i : Int) ≤ (l0.length : Int)) = true := decide_eq_true (by omega)
    have di2 : decide (i ≤ l0.length) = true := decide_eq_true (by omega)
    have di3 : decide (i ≤ c) = true := decide_eq_true (by omega)
    have di4 : decide ((i : Int) ≤ (c : Int)) = true := decide_eq_true (by omega)
    clear hjl
    go_wp2
    go_ret
    have ht := HT.out
    rw [List.take_length] at ht
    have h3 : Below w0.heap.size w0 (wr.setCells b i vs) := pw_below_grown HB3.out (some b) HB3.out.size HBY.out.2 (fun k hk => by injection hk with hk; subst hk; exact BGE.out)
    exact ⟨_, rfl, by rw [← ht]; exact Kd.R_mono HBY.out.1 (fun k hk => .inl hk), h3, Kept.of_grown HBY.out.2 HK.out (fun k hk => by injection hk with hk; subst hk; exact .inl HOK.out)⟩

end Go.Proofs.Ytppojihmllmgnaa.F
