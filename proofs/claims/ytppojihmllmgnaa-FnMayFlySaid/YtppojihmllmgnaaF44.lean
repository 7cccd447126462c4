-- PRINTED by print.py (a twelfth state) out of the translation. Not trusted: Lean checks it.
import Derived.Test.YtppojihmllmgnaaF
import Derived.Test.YtppojihmllmgnaaF25
import Derived.Test.YtppojihmllmgnaaF37
import Derived.Test.YtppojihmllmgnaaF75
import Derived.Test.YtppojihmllmgnaaF76
namespace Go.Proofs.Ytppojihmllmgnaa.F
open Go.Proofs.Ytppojihmllmgnaa.Opn
open Go.RowKit Go.Proofs.YtppojihmllmgnaaW.PrintWords Go.Proofs.YtppojihmllmgnaaW.PrintLast
set_option linter.unusedVariables false
set_option linter.unusedSimpArgs false

/-! ### impl_OffList: function 44 -/
def impl_OffList.v (k : Nat) (l0 : List S25) (x1 : Int) (x : Int) : Bool := (impl_MayFly.f k l0 x x1).getD false
def impl_OffList.f (k : Nat) (l0 : List S25) (x1 : Int) (l2 : List Int) : Option (List Int) := (impl_NotesOk.f k l0).bind fun b => if b = true ∧ l2.length ≤ 1000 then (if l2.all (fun x => (impl_MayFly.f k l0 x x1).isSome) = true then some (l2.filter fun x => !impl_OffList.v k l0 x1 x) else none) else some []
theorem impl_OffList.mono : ∀ l0 x1 l2 k, LeO (impl_OffList.f k l0 x1 l2) (impl_OffList.f (k + 1) l0 x1 l2) := by
 intro l0 x1 l2 k
 unfold impl_OffList.f
 refine LeO.bind (impl_NotesOk.mono _ _) (fun b => LeO.ite ?_ (LeO.refl _))
 intro r h
 split at h
 ·
  rename_i ha
  have hs : ∀ x ∈ l2, impl_MayFly.f (k + 1) l0 x x1 = impl_MayFly.f k l0 x x1 := by
   intro x hx
   have h1 := List.all_eq_true.1 ha x hx
   obtain ⟨q, hq⟩ := Option.isSome_iff_exists.1 h1
   rw [hq]
   exact impl_MayFly.mono l0 x x1 k q hq
  rw [if_pos (List.all_eq_true.2 (fun x hx => by rw [hs x hx]; exact List.all_eq_true.1 ha x hx)), ← h]
  congr 1
  refine List.filter_congr (fun x hx => ?_)
  unfold impl_OffList.v
  rw [hs x hx]
 ·
  cases h
set_option maxHeartbeats 2000000 in
theorem impl_OffList.closure (k : Nat) (A0 : Option Addr) (c0 : Nat) (l0 : List S25) (x1 : Int) (B1 B2 : Nat) (W : World) (x : Int) (q : Bool) (hm : impl_MayFly.f k l0 x x1 = some q) (hr0 : Kd.C k25 W A0 l0.length l0) (hc0 : l0.length ≤ c0)
  (hb1 : W.heap[B1]? = some (.cells #[.slice A0 l0.length c0] 31 (0, 0))) (hb2 : W.heap[B2]? = some (.cells #[.int .i64 x1] 3 (0, 0))) :
  Calls Try.prog 77 (#[.int .i64 x] ++ #[.pointer (some ⟨B1, 0, none⟩), .pointer (some ⟨B2, 0, none⟩)]) W fun e w' => e = .returned (.bool q) ∧ Below W.heap.size W w' := by
 have b1 : W.cell? ⟨B1, 0, none⟩ = some (.slice A0 l0.length c0) := (blk_cell hb1 0).trans rfl
 have b2 : W.cell? ⟨B2, 0, none⟩ = some (.int .i64 x1) := (blk_cell hb2 0).trans rfl
 clear hb1 hb2
 have HC := Aside0.mk (impl_MayFly.calls k A0 c0 l0 x x1 q W hr0 hc0 hm)
 clear hr0 hc0 hm
 show Calls Try.prog 77 #[.int .i64 x, .pointer (some ⟨B1, 0, none⟩), .pointer (some ⟨B2, 0, none⟩)] W _
 go_enter Try.func77, Try.ntmps77
 go_wp2_with fail
 refine HC.out.mono ?_
 rintro e w' ⟨rfl, hb⟩
 have HB := Aside0.mk hb
 clear hb HC
 go_wp2
 go_ret
 exact ⟨rfl, HB.out⟩
set_option maxHeartbeats 4000000 in
set_option maxRecDepth 100000 in
theorem impl_OffList.calls (k : Nat) (A0 : Option Addr) (c0 : Nat) (l0 : List S25) (x1 : Int) (A2 : Option Addr) (c2 : Nat) (l2 : List Int) (r : List Int) (w : World) (hr0 : Kd.C k25 w A0 l0.length l0) (hc0 : l0.length ≤ c0) (hr2 : Kd.C (Kd.int .i64) w A2 l2.length l2) (hc2 : l2.length ≤ c2) (h : impl_OffList.f k l0 x1 l2 = some r) :
  Calls Try.prog 44 #[.slice A0 l0.length c0, .int .i64 x1, .slice A2 l2.length c2] w fun e w' => ∃ v0_ : Value, e = .returned (v0_) ∧ Kd.R (Kd.int .i64) 3 w' w.heap.size (fun _ => True) v0_ r ∧ Below w.heap.size w w' := by
 obtain ⟨b, hok, h⟩ := Option.bind_eq_some_iff.1 h
 have hmx : l2.length ≤ 9223372036854775807 := hr2.2.1
 have HR0 := Aside0.mk hr0
 have HC0 := Aside0.mk hc0
 have HR2 := Aside0.mk hr2
 have HC2 := Aside0.mk hc2
 have HOK := Aside0.mk hok
 have H := Aside0.mk h
 have HMX := Aside0.mk hmx
 clear hr0 hc0 hr2 hc2 hok h hmx
 have HB := Aside0.mk (Below.refl w.heap.size w)
 go_enter Try.func44, Try.ntmps44
 go_upto_region 1 with (first
  | ((with_reducible refine gate_dst (N := 3) rfl ?_); refine box_event ?hg (N := 3) ?hd (cs := #[.slice A0 l0.length c0]) (t := 31) ?hr ?_; (case hd => rfl); (case hg => rfl); (case hr => first | (go_simp; done) | (go_simp; rfl)); intro B1 hg w1 hbox hb; have HB1 := Aside0.mk hb; have BK1 := Aside0.mk hbox; have G1 := Aside0.mk hg; clear hb hbox hg)
  | ((with_reducible refine gate_dst (N := 4) rfl ?_); refine box_event ?hg (N := 4) ?hd (cs := #[.int .i64 x1]) (t := 3) ?hr ?_; (case hd => rfl); (case hg => rfl); (case hr => first | (go_simp; done) | (go_simp; rfl)); intro B2 hg w2 hbox hb; have HB2 := Aside0.mk hb; have BK2 := Aside0.mk hbox; have G2 := Aside0.mk hg; clear hb hbox hg))
 (try simp only [Act.put, List.setIfInBounds_toArray, List.set_cons_zero, List.set_cons_succ])
 have HB0 := Aside0.mk (below_step HB1.out HB2.out)
 have BK1' := Aside0.mk (blk_below BK1.out HB2.out)
 clear BK1
 have hcz : w2.cell? ⟨B1, 0, none⟩ = some (.slice A0 l0.length c0) := (blk_cell BK1'.out 0).trans rfl
 have hfz := blk_frozen BK1'.out 0
 have HCALL := Aside0.mk (impl_NotesOk.calls k _ _ l0 b w2 (Kd.C_below HR0.out HB0.out) HC0.out HOK.out)
 cases b with
 | false =>
  have hr := H.out
  simp only [Bool.false_eq_true, false_and, if_false, Option.some.injEq] at hr
  subst hr
  clear H
  go_wp2_with fail
  refine HCALL.out.mono ?_
  rintro e w7 ⟨rfl, hb⟩
  have HB3 := Aside0.mk (below_step HB0.out hb)
  clear hb
  go_wp2
  go_ret
  exact ⟨_, rfl, Kd.R_nil _ _ _ _ _, HB3.out⟩
 | true =>
  by_cases hlen : l2.length ≤ 1000
  ·
   have hr := H.out
   simp only [hlen, and_self, if_true] at hr
   clear H
   split at hr
   ·
    rename_i ha
    have hr := Option.some.inj hr
    subst hr
    have HA := Aside0.mk ha
    clear ha
    have d1 : decide ((l2.length : Int) > 1000) = false := decide_eq_false (by omega)
    have d2 : decide (1000 < (l2.length : Int)) = false := decide_eq_false (by omega)
    have d3 : decide (1000 < l2.length) = false := decide_eq_false (by omega)
    have HLEN := Aside0.mk hlen
    clear hlen
    go_wp2_with fail
    refine HCALL.out.mono ?_
    rintro e w7 ⟨rfl, hb⟩
    have HB3 := Aside0.mk (below_step HB0.out hb)
    have B1K := Aside0.mk (blk_below BK1'.out hb)
    have B2K := Aside0.mk (blk_below BK2.out hb)
    clear hb HCALL
    have HCL := Aside0.mk (slices_Clone_int_int.calls A2 c2 l2 l2 w7 (Kd.C_below HR2.out HB3.out) HC2.out (by have := HLEN.out; simp [slices_Clone_int_int.f]; omega))
    clear hcz hfz
    go_wp2_with fail
    refine HCL.out.mono ?_
    rintro e w8 ⟨v8, rfl, ho, hb⟩
    have HD := Aside0.mk (slices_DeleteFunc_int_int.callsFn (impl_OffList.v k l0 x1) _ #[.pointer (some ⟨B1, 0, none⟩), .pointer (some ⟨B2, 0, none⟩)] (enters_ Try.func77 (by kernel_rfl) rfl) (fun k_ => w7.heap.size ≤ k_) v8 l2 w7 w8 hb (Kd.R_mono (Kd.R_bound ho) (fun k_ hk => hk.2.1)) (fun W x hx hbW _ => by
     have hs := List.all_eq_true.1 HA.out x hx
     obtain ⟨q, hq⟩ := Option.isSome_iff_exists.1 hs
     have hv : impl_OffList.v k l0 x1 x = q := by unfold impl_OffList.v; rw [hq]; rfl
     rw [hv]
     exact impl_OffList.closure k A0 c0 l0 x1 B1 B2 W x q hq (Kd.C_below HR0.out (below_step HB3.out hbW)) HC0.out (blk_below B1K.out hbW) (blk_below B2K.out hbW)))
    clear ho hb HCL
    go_wp2_with fail
    refine HD.out.mono ?_
    rintro e w9 ⟨v9, rfl, ho, hb, hk⟩
    have HO := Aside0.mk (Kd.R_mono (Kd.R_lower ho (below_size HB3.out)) (fun _ _ => trivial))
    have HB9 := Aside0.mk (below_step HB3.out hb)
    clear ho hb hk HD
    go_wp2
    go_ret
    exact ⟨_, rfl, HO.out, HB9.out⟩
   ·
    cases hr
  ·
   have hr := H.out
   simp only [hlen, and_false, if_false, Option.some.injEq] at hr
   subst hr
   clear H
   have d1 : decide ((l2.length : Int) > 1000) = true := decide_eq_true (by omega)
   have d2 : decide (1000 < (l2.length : Int)) = true := decide_eq_true (by omega)
   have d3 : decide (1000 < l2.length) = true := decide_eq_true (by omega)
   have HLEN := Aside0.mk hlen
   clear hlen
   go_wp2_with fail
   refine HCALL.out.mono ?_
   rintro e w7 ⟨rfl, hb⟩
   have HB3 := Aside0.mk (below_step HB0.out hb)
   clear hb
   go_wp2
   go_ret
   exact ⟨_, rfl, Kd.R_nil _ _ _ _ _, HB3.out⟩

end Go.Proofs.Ytppojihmllmgnaa.F
