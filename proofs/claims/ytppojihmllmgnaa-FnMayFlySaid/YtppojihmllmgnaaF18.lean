-- PRINTED by print.py (a twelfth state) out of the translation. Not trusted: Lean checks it.
import Derived.Test.YtppojihmllmgnaaF
import Derived.Test.YtppojihmllmgnaaF29
import Derived.Test.YtppojihmllmgnaaF30
import Derived.Test.YtppojihmllmgnaaF31
import Derived.Test.YtppojihmllmgnaaF32
import Derived.Test.YtppojihmllmgnaaF33
import Derived.Test.YtppojihmllmgnaaF34
import Derived.Test.YtppojihmllmgnaaF36
import Derived.Test.YtppojihmllmgnaaF37
import Derived.Test.YtppojihmllmgnaaF42
import Derived.Test.YtppojihmllmgnaaF44
import Derived.Test.YtppojihmllmgnaaF53
import Derived.Test.YtppojihmllmgnaaF54
import Derived.Test.YtppojihmllmgnaaF55
import Derived.Test.YtppojihmllmgnaaF60
import Derived.Test.YtppojihmllmgnaaF61
import Derived.Test.YtppojihmllmgnaaF62
namespace Go.Proofs.Ytppojihmllmgnaa.F
open Go.Proofs.Ytppojihmllmgnaa.Opn
open Go.RowKit Go.Proofs.YtppojihmllmgnaaW.PrintWords Go.Proofs.YtppojihmllmgnaaW.PrintLast
set_option linter.unusedVariables false
set_option linter.unusedSimpArgs false

/-! ### laws_FnMayFly: function 18 -/
theorem laws_FnMayFly.eqA39 (d : Nat) (w : World) (x0 y0 : Int) (x1 y1 : Int) :
  (Op.equalIn (d + 2) 39 (.agg #[.int .i64 x0, .int .i64 x1]) (.agg #[.int .i64 y0, .int .i64 y1])).run Try.prog w = .ok (x0 == y0 && (x1 == y1)) w := by
 refine eqA_of Try.underlying39 (by kernel_rfl) ?_
 refine eqf_cons (by rfl) (by go_simp; rfl) (by go_simp; rfl) (by go_simp) ?_
 exact eqf_last (by rfl) (by go_simp; rfl) (by go_simp; rfl) (by go_simp)
attribute [local go_sem high] laws_FnMayFly.eqA39
mutual
def laws_FnMayFly.j0 : Nat → List (S25) → Int → Int → Bool → Bool → Bool → Int → Int → Option (Bool)
 | 0, _, _, _, _, _, _, _, _ => none
 | k + 1, x3, x4, x5, x6, x8, x76, x1291000, x1291001 => if x76 = true then (some false) else ((impl_HeldUp.f k x3 x5).bind fun t1300 => ((impl_OffList.f k x3 x5 (([x4, wrap64 (x4 + 1), x4] : List Int))).bind fun t1306 => ((spec_HeldUp.f k x3 x5).bind fun t1309 => ((laws_sameInts.f k t1300 t1309).bind fun t1312 => (if t1312 = true then ((spec_OffList.f k x3 x5 (([x4, wrap64 (x4 + 1), x4] : List Int))).bind fun t1316 => ((laws_sameInts.f k t1306 t1316).bind fun t1319 => (laws_FnMayFly.j1 k x3 x4 x5 x6 x8 t1300 t1306 (!t1319) x1291000 x1291001))) else (laws_FnMayFly.j1 k x3 x4 x5 x6 x8 t1300 t1306 true x1291000 x1291001))))))
def laws_FnMayFly.j1 : Nat → List (S25) → Int → Int → Bool → Bool → List Int → List Int → Bool → Int → Int → Option (Bool)
 | 0, _, _, _, _, _, _, _, _, _, _ => none
 | k + 1, x3, x4, x5, x6, x8, x11, x12, x106, x1291000, x1291001 => if x106 = true then (some false) else (if x8 = true then (if x1291001 = x5 then ((impl_Pulled.f k x3 x4 x5).bind fun t1320 => (if t1320 = true then (laws_FnMayFly.j2 k x3 x4 x5 x6 x8 x12 false x1291000 x1291001) else ((laws_has.f k x11 x1291000).bind fun t1321 => (laws_FnMayFly.j2 k x3 x4 x5 x6 x8 x12 (t1321 == x6) x1291000 x1291001)))) else (laws_FnMayFly.j2 k x3 x4 x5 x6 x8 x12 false x1291000 x1291001)) else (laws_FnMayFly.j2 k x3 x4 x5 x6 x8 x12 false x1291000 x1291001))
def laws_FnMayFly.j2 : Nat → List (S25) → Int → Int → Bool → Bool → List Int → Bool → Int → Int → Option (Bool)
 | 0, _, _, _, _, _, _, _, _, _ => none
 | k + 1, x3, x4, x5, x6, x8, x12, x128, x1291000, x1291001 => if x128 = true then (some false) else (if x6 = true then (if x8 = true then (if x1291001 = x5 then ((impl_Aboard.f k x3 x1291000 x5).bind fun t1322 => (if t1322 = true then ((laws_has.f k x12 x4).bind fun t1323 => (some (!t1323))) else (some false))) else (some false)) else (some false)) else (some true))
end
def laws_FnMayFly.f0 (k : Nat) (l0 : List Int) : Option (Bool) := (laws_big.f l0).bind fun t1280 => (if t1280 = true then (some true) else ((spec_DrawMayFly.f k l0).bind fun bt1281 => ((impl_MayFly.f k bt1281.1 bt1281.2.1 bt1281.2.2).bind fun t1286 => ((impl_OwnerOf.f k bt1281.1 bt1281.2.1).bind fun bt1287 => ((spec_OwnerOf.f k bt1281.1 bt1281.2.1).bind fun bt1291 => ((spec_MayFly.f k bt1281.1 bt1281.2.1 bt1281.2.2).bind fun t1295 => (if (t1286 != t1295) = true then (laws_FnMayFly.j0 k bt1281.1 bt1281.2.1 bt1281.2.2 t1286 bt1287.2.2 true bt1287.1 bt1287.2.1) else (if (bt1287.2.2 != bt1291.2.2) = true then (laws_FnMayFly.j0 k bt1281.1 bt1281.2.1 bt1281.2.2 t1286 bt1287.2.2 true bt1287.1 bt1287.2.1) else (if (!(bt1287.1 == bt1291.1) || (!(bt1287.2.1 == bt1291.2.1))) = true then (laws_FnMayFly.j0 k bt1281.1 bt1281.2.1 bt1281.2.2 t1286 bt1287.2.2 true bt1287.1 bt1287.2.1) else ((impl_Pulled.f k bt1281.1 bt1281.2.1 bt1281.2.2).bind fun t1296 => ((spec_Pulled.f k bt1281.1 bt1281.2.1 bt1281.2.2).bind fun t1297 => (if (t1296 != t1297) = true then (laws_FnMayFly.j0 k bt1281.1 bt1281.2.1 bt1281.2.2 t1286 bt1287.2.2 true bt1287.1 bt1287.2.1) else ((impl_Aboard.f k bt1281.1 bt1287.1 bt1281.2.2).bind fun t1298 => ((spec_Aboard.f k bt1281.1 bt1287.1 bt1281.2.2).bind fun t1299 => (laws_FnMayFly.j0 k bt1281.1 bt1281.2.1 bt1281.2.2 t1286 bt1287.2.2 (t1298 != t1299) bt1287.1 bt1287.2.1)))))))))))))))
theorem laws_FnMayFly.mono_l : ∀ k, (∀ y0 y1 y2 y3 y4 y5 y6 y7, LeO (laws_FnMayFly.j0 k y0 y1 y2 y3 y4 y5 y6 y7) (laws_FnMayFly.j0 (k + 1) y0 y1 y2 y3 y4 y5 y6 y7)) ∧ (∀ y0 y1 y2 y3 y4 y5 y6 y7 y8 y9, LeO (laws_FnMayFly.j1 k y0 y1 y2 y3 y4 y5 y6 y7 y8 y9) (laws_FnMayFly.j1 (k + 1) y0 y1 y2 y3 y4 y5 y6 y7 y8 y9)) ∧ (∀ y0 y1 y2 y3 y4 y5 y6 y7 y8, LeO (laws_FnMayFly.j2 k y0 y1 y2 y3 y4 y5 y6 y7 y8) (laws_FnMayFly.j2 (k + 1) y0 y1 y2 y3 y4 y5 y6 y7 y8))
 | 0 => ⟨fun _ _ _ _ _ _ _ _ r h => by simp [laws_FnMayFly.j0] at h, fun _ _ _ _ _ _ _ _ _ _ r h => by simp [laws_FnMayFly.j1] at h, fun _ _ _ _ _ _ _ _ _ r h => by simp [laws_FnMayFly.j2] at h⟩
 | k + 1 => by
  obtain ⟨ih0, ih1, ih2⟩ := laws_FnMayFly.mono_l k
  refine ⟨?_, ?_, ?_⟩
  ·
   intro y0 y1 y2 y3 y4 y5 y6 y7
   unfold laws_FnMayFly.j0
   repeat' first
   | (with_reducible exact ih0 _ _ _ _ _ _ _ _)
   | (with_reducible exact ih1 _ _ _ _ _ _ _ _ _ _)
   | (with_reducible exact ih2 _ _ _ _ _ _ _ _ _)
   | (with_reducible exact impl_Aboard.mono _ _ _ _)
   | (with_reducible exact impl_HeldUp.mono _ _ _)
   | (with_reducible exact impl_MayFly.mono _ _ _ _)
   | (with_reducible exact impl_OffList.mono _ _ _ _)
   | (with_reducible exact impl_OwnerOf.mono _ _ _)
   | (with_reducible exact impl_Pulled.mono _ _ _ _)
   | (with_reducible exact laws_has.mono _ _ _)
   | (with_reducible exact laws_sameInts.mono _ _ _)
   | (with_reducible exact spec_Aboard.mono _ _ _ _)
   | (with_reducible exact spec_DrawMayFly.mono _ _)
   | (with_reducible exact spec_HeldUp.mono _ _ _)
   | (with_reducible exact spec_MayFly.mono _ _ _ _)
   | (with_reducible exact spec_OffList.mono _ _ _ _)
   | (with_reducible exact spec_OwnerOf.mono _ _ _)
   | (with_reducible exact spec_Pulled.mono _ _ _ _)
   | (with_reducible exact LeO.refl _)
   | (with_reducible exact LeO.none _)
   | (with_reducible refine LeO.ite ?_ ?_)
   | (with_reducible refine LeO.bind ?_ (fun _ => ?_))
   | exact ih0 _ _ _ _ _ _ _ _
   | exact ih1 _ _ _ _ _ _ _ _ _ _
   | exact ih2 _ _ _ _ _ _ _ _ _
   | exact impl_Aboard.mono _ _ _ _
   | exact impl_HeldUp.mono _ _ _
   | exact impl_MayFly.mono _ _ _ _
   | exact impl_OffList.mono _ _ _ _
   | exact impl_OwnerOf.mono _ _ _
   | exact impl_Pulled.mono _ _ _ _
   | exact laws_has.mono _ _ _
   | exact laws_sameInts.mono _ _ _
   | exact spec_Aboard.mono _ _ _ _
   | exact spec_DrawMayFly.mono _ _
   | exact spec_HeldUp.mono _ _ _
   | exact spec_MayFly.mono _ _ _ _
   | exact spec_OffList.mono _ _ _ _
   | exact spec_OwnerOf.mono _ _ _
   | exact spec_Pulled.mono _ _ _ _
   | exact LeO.none _
   | refine LeO.ite ?_ ?_
   | refine LeO.bind ?_ (fun _ => ?_)
  ·
   intro y0 y1 y2 y3 y4 y5 y6 y7 y8 y9
   unfold laws_FnMayFly.j1
   repeat' first
   | (with_reducible exact ih0 _ _ _ _ _ _ _ _)
   | (with_reducible exact ih1 _ _ _ _ _ _ _ _ _ _)
   | (with_reducible exact ih2 _ _ _ _ _ _ _ _ _)
   | (with_reducible exact impl_Aboard.mono _ _ _ _)
   | (with_reducible exact impl_HeldUp.mono _ _ _)
   | (with_reducible exact impl_MayFly.mono _ _ _ _)
   | (with_reducible exact impl_OffList.mono _ _ _ _)
   | (with_reducible exact impl_OwnerOf.mono _ _ _)
   | (with_reducible exact impl_Pulled.mono _ _ _ _)
   | (with_reducible exact laws_has.mono _ _ _)
   | (with_reducible exact laws_sameInts.mono _ _ _)
   | (with_reducible exact spec_Aboard.mono _ _ _ _)
   | (with_reducible exact spec_DrawMayFly.mono _ _)
   | (with_reducible exact spec_HeldUp.mono _ _ _)
   | (with_reducible exact spec_MayFly.mono _ _ _ _)
   | (with_reducible exact spec_OffList.mono _ _ _ _)
   | (with_reducible exact spec_OwnerOf.mono _ _ _)
   | (with_reducible exact spec_Pulled.mono _ _ _ _)
   | (with_reducible exact LeO.refl _)
   | (with_reducible exact LeO.none _)
   | (with_reducible refine LeO.ite ?_ ?_)
   | (with_reducible refine LeO.bind ?_ (fun _ => ?_))
   | exact ih0 _ _ _ _ _ _ _ _
   | exact ih1 _ _ _ _ _ _ _ _ _ _
   | exact ih2 _ _ _ _ _ _ _ _ _
   | exact impl_Aboard.mono _ _ _ _
   | exact impl_HeldUp.mono _ _ _
   | exact impl_MayFly.mono _ _ _ _
   | exact impl_OffList.mono _ _ _ _
   | exact impl_OwnerOf.mono _ _ _
   | exact impl_Pulled.mono _ _ _ _
   | exact laws_has.mono _ _ _
   | exact laws_sameInts.mono _ _ _
   | exact spec_Aboard.mono _ _ _ _
   | exact spec_DrawMayFly.mono _ _
   | exact spec_HeldUp.mono _ _ _
   | exact spec_MayFly.mono _ _ _ _
   | exact spec_OffList.mono _ _ _ _
   | exact spec_OwnerOf.mono _ _ _
   | exact spec_Pulled.mono _ _ _ _
   | exact LeO.none _
   | refine LeO.ite ?_ ?_
   | refine LeO.bind ?_ (fun _ => ?_)
  ·
   intro y0 y1 y2 y3 y4 y5 y6 y7 y8
   unfold laws_FnMayFly.j2
   repeat' first
   | (with_reducible exact ih0 _ _ _ _ _ _ _ _)
   | (with_reducible exact ih1 _ _ _ _ _ _ _ _ _ _)
   | (with_reducible exact ih2 _ _ _ _ _ _ _ _ _)
   | (with_reducible exact impl_Aboard.mono _ _ _ _)
   | (with_reducible exact impl_HeldUp.mono _ _ _)
   | (with_reducible exact impl_MayFly.mono _ _ _ _)
   | (with_reducible exact impl_OffList.mono _ _ _ _)
   | (with_reducible exact impl_OwnerOf.mono _ _ _)
   | (with_reducible exact impl_Pulled.mono _ _ _ _)
   | (with_reducible exact laws_has.mono _ _ _)
   | (with_reducible exact laws_sameInts.mono _ _ _)
   | (with_reducible exact spec_Aboard.mono _ _ _ _)
   | (with_reducible exact spec_DrawMayFly.mono _ _)
   | (with_reducible exact spec_HeldUp.mono _ _ _)
   | (with_reducible exact spec_MayFly.mono _ _ _ _)
   | (with_reducible exact spec_OffList.mono _ _ _ _)
   | (with_reducible exact spec_OwnerOf.mono _ _ _)
   | (with_reducible exact spec_Pulled.mono _ _ _ _)
   | (with_reducible exact LeO.refl _)
   | (with_reducible exact LeO.none _)
   | (with_reducible refine LeO.ite ?_ ?_)
   | (with_reducible refine LeO.bind ?_ (fun _ => ?_))
   | exact ih0 _ _ _ _ _ _ _ _
   | exact ih1 _ _ _ _ _ _ _ _ _ _
   | exact ih2 _ _ _ _ _ _ _ _ _
   | exact impl_Aboard.mono _ _ _ _
   | exact impl_HeldUp.mono _ _ _
   | exact impl_MayFly.mono _ _ _ _
   | exact impl_OffList.mono _ _ _ _
   | exact impl_OwnerOf.mono _ _ _
   | exact impl_Pulled.mono _ _ _ _
   | exact laws_has.mono _ _ _
   | exact laws_sameInts.mono _ _ _
   | exact spec_Aboard.mono _ _ _ _
   | exact spec_DrawMayFly.mono _ _
   | exact spec_HeldUp.mono _ _ _
   | exact spec_MayFly.mono _ _ _ _
   | exact spec_OffList.mono _ _ _ _
   | exact spec_OwnerOf.mono _ _ _
   | exact spec_Pulled.mono _ _ _ _
   | exact LeO.none _
   | refine LeO.ite ?_ ?_
   | refine LeO.bind ?_ (fun _ => ?_)
theorem laws_FnMayFly.mono : ∀ a0 k, LeO (laws_FnMayFly.f0 k a0) (laws_FnMayFly.f0 (k + 1) a0) := by
 intro a0 k
 obtain ⟨ih0, ih1, ih2⟩ := laws_FnMayFly.mono_l k
 unfold laws_FnMayFly.f0
 repeat' first
   | (with_reducible exact ih0 _ _ _ _ _ _ _ _)
   | (with_reducible exact ih1 _ _ _ _ _ _ _ _ _ _)
   | (with_reducible exact ih2 _ _ _ _ _ _ _ _ _)
   | (with_reducible exact impl_Aboard.mono _ _ _ _)
   | (with_reducible exact impl_HeldUp.mono _ _ _)
   | (with_reducible exact impl_MayFly.mono _ _ _ _)
   | (with_reducible exact impl_OffList.mono _ _ _ _)
   | (with_reducible exact impl_OwnerOf.mono _ _ _)
   | (with_reducible exact impl_Pulled.mono _ _ _ _)
   | (with_reducible exact laws_has.mono _ _ _)
   | (with_reducible exact laws_sameInts.mono _ _ _)
   | (with_reducible exact spec_Aboard.mono _ _ _ _)
   | (with_reducible exact spec_DrawMayFly.mono _ _)
   | (with_reducible exact spec_HeldUp.mono _ _ _)
   | (with_reducible exact spec_MayFly.mono _ _ _ _)
   | (with_reducible exact spec_OffList.mono _ _ _ _)
   | (with_reducible exact spec_OwnerOf.mono _ _ _)
   | (with_reducible exact spec_Pulled.mono _ _ _ _)
   | (with_reducible exact LeO.refl _)
   | (with_reducible exact LeO.none _)
   | (with_reducible refine LeO.ite ?_ ?_)
   | (with_reducible refine LeO.bind ?_ (fun _ => ?_))
   | exact ih0 _ _ _ _ _ _ _ _
   | exact ih1 _ _ _ _ _ _ _ _ _ _
   | exact ih2 _ _ _ _ _ _ _ _ _
   | exact impl_Aboard.mono _ _ _ _
   | exact impl_HeldUp.mono _ _ _
   | exact impl_MayFly.mono _ _ _ _
   | exact impl_OffList.mono _ _ _ _
   | exact impl_OwnerOf.mono _ _ _
   | exact impl_Pulled.mono _ _ _ _
   | exact laws_has.mono _ _ _
   | exact laws_sameInts.mono _ _ _
   | exact spec_Aboard.mono _ _ _ _
   | exact spec_DrawMayFly.mono _ _
   | exact spec_HeldUp.mono _ _ _
   | exact spec_MayFly.mono _ _ _ _
   | exact spec_OffList.mono _ _ _ _
   | exact spec_OwnerOf.mono _ _ _
   | exact spec_Pulled.mono _ _ _ _
   | exact LeO.none _
   | refine LeO.ite ?_ ?_
   | refine LeO.bind ?_ (fun _ => ?_)
def laws_FnMayFly.T7 : Bool × List (List Nat × List Nat) := (true, [([], []), ([], []), ([], []), ([], []), ([1, 2, 3], [1, 2, 3]), ([0, 4], [0, 4]), ([5, 4], [5]), ([6], [6]), ([6], [6]), ([7, 8, 6], [6, 7, 8]), ([6, 9], [6, 9]), ([10, 6], [10]), ([11], [11]), ([11], [11]), ([12, 13, 11], [11, 12, 13]), ([11, 14], [11, 14]), ([15, 11], [15]), ([16], [16]), ([16], [16]), ([16], [16]), ([17, 18, 19, 16, 16], [16, 17, 18, 19]), ([16], [16]), ([16], [16]), ([16], [16]), ([21, 22, 23, 20, 16], [16, 21, 22, 23]), ([20, 24, 16], [16, 20, 24]), ([16, 25], [16, 25]), ([26, 24], [26]), ([27], [27]), ([27], [27]), ([29, 27], [27, 29]), ([27], [27]), ([28, 30, 31, 27, 27], [27, 28, 30, 31]), ([27], [27]), ([27], [27]), ([34, 27], [27, 34]), ([27], [27]), ([33, 35, 36, 32, 27], [27, 33, 35, 36]), ([32, 37, 27], [27, 32, 37]), ([27, 38], [27, 38])])
def laws_FnMayFly.B7 : List Nat := [0, 0, 0, 0, 14, 31, 63, 127, 127, 511, 1023, 2047, 4095, 4095, 16383, 32767, 65535, 131071, 131071, 131071, 1048575, 131071, 131071, 131071, 16777215, 33554431, 67108863, 134217727, 268435455, 268435455, 805306367, 268435455, 4294967295, 268435455, 268435455, 17448304639, 268435455, 137438953471, 274877906943, 549755813887]
theorem laws_FnMayFly.tab7 : rtab .any (opsOf Try.f18 7) = laws_FnMayFly.T7 := by kernel_rfl
theorem laws_FnMayFly.bits7 : waitsOk laws_FnMayFly.T7.2 laws_FnMayFly.B7 = true := by kernel_rfl
def laws_FnMayFly.f (k : Nat) (l0 : List Int) : Option Bool := if laws_FnMayFly.f0 k l0 = some true then some true else none
set_option maxHeartbeats 8000000 in
set_option maxRecDepth 100000 in
theorem laws_FnMayFly.calls (k : Nat) (A0 : Option Addr) (c0 : Nat) (l0 : List Int) (r : Bool) (w : World) (hr0 : Kd.C (Kd.int .u8) w A0 l0.length l0) (hc0 : l0.length ≤ c0) (h : laws_FnMayFly.f k l0 = some r) :
  Calls Try.prog 18 #[.slice A0 l0.length c0] w fun e w' => e = .returned (.bool r) ∧ Below w.heap.size w w' := by
 have hr_ : r = true ∧ laws_FnMayFly.f0 k l0 = some r := by
  unfold laws_FnMayFly.f at h
  split at h
  ·
   rename_i h1
   have h2 := Option.some.inj h
   exact ⟨h2.symm, by rw [← h2]; exact h1⟩
  ·
   cases h
 clear h
 have h := hr_.2
 have HRT := Aside0.mk hr_.1
 clear hr_
 have hu39 := Try.underlying39
 have HR0 := Aside0.mk hr0
 have HC0 := Aside0.mk hc0
 clear hr0 hc0
 have HB := Aside0.mk (Below.refl w.heap.size w)
 have H : ((laws_big.f l0).bind fun t1280 => (if t1280 = true then (some true) else ((spec_DrawMayFly.f k l0).bind fun bt1281 => ((impl_MayFly.f k bt1281.1 bt1281.2.1 bt1281.2.2).bind fun t1286 => ((impl_OwnerOf.f k bt1281.1 bt1281.2.1).bind fun bt1287 => ((spec_OwnerOf.f k bt1281.1 bt1281.2.1).bind fun bt1291 => ((spec_MayFly.f k bt1281.1 bt1281.2.1 bt1281.2.2).bind fun t1295 => (if (t1286 != t1295) = true then (laws_FnMayFly.j0 k bt1281.1 bt1281.2.1 bt1281.2.2 t1286 bt1287.2.2 true bt1287.1 bt1287.2.1) else (if (bt1287.2.2 != bt1291.2.2) = true then (laws_FnMayFly.j0 k bt1281.1 bt1281.2.1 bt1281.2.2 t1286 bt1287.2.2 true bt1287.1 bt1287.2.1) else (if (!(bt1287.1 == bt1291.1) || (!(bt1287.2.1 == bt1291.2.1))) = true then (laws_FnMayFly.j0 k bt1281.1 bt1281.2.1 bt1281.2.2 t1286 bt1287.2.2 true bt1287.1 bt1287.2.1) else ((impl_Pulled.f k bt1281.1 bt1281.2.1 bt1281.2.2).bind fun t1296 => ((spec_Pulled.f k bt1281.1 bt1281.2.1 bt1281.2.2).bind fun t1297 => (if (t1296 != t1297) = true then (laws_FnMayFly.j0 k bt1281.1 bt1281.2.1 bt1281.2.2 t1286 bt1287.2.2 true bt1287.1 bt1287.2.1) else ((impl_Aboard.f k bt1281.1 bt1287.1 bt1281.2.2).bind fun t1298 => ((spec_Aboard.f k bt1281.1 bt1287.1 bt1281.2.2).bind fun t1299 => (laws_FnMayFly.j0 k bt1281.1 bt1281.2.1 bt1281.2.2 t1286 bt1287.2.2 (t1298 != t1299) bt1287.1 bt1287.2.1)))))))))))))))) = some r := h
 clear h
 replace H := Option.bind_eq_some_iff.mp H
 obtain ⟨t1280, A20, H⟩ := H
 replace H : (if t1280 = true then (some true) else ((spec_DrawMayFly.f k l0).bind fun bt1281 => ((impl_MayFly.f k bt1281.1 bt1281.2.1 bt1281.2.2).bind fun t1286 => ((impl_OwnerOf.f k bt1281.1 bt1281.2.1).bind fun bt1287 => ((spec_OwnerOf.f k bt1281.1 bt1281.2.1).bind fun bt1291 => ((spec_MayFly.f k bt1281.1 bt1281.2.1 bt1281.2.2).bind fun t1295 => (if (t1286 != t1295) = true then (laws_FnMayFly.j0 k bt1281.1 bt1281.2.1 bt1281.2.2 t1286 bt1287.2.2 true bt1287.1 bt1287.2.1) else (if (bt1287.2.2 != bt1291.2.2) = true then (laws_FnMayFly.j0 k bt1281.1 bt1281.2.1 bt1281.2.2 t1286 bt1287.2.2 true bt1287.1 bt1287.2.1) else (if (!(bt1287.1 == bt1291.1) || (!(bt1287.2.1 == bt1291.2.1))) = true then (laws_FnMayFly.j0 k bt1281.1 bt1281.2.1 bt1281.2.2 t1286 bt1287.2.2 true bt1287.1 bt1287.2.1) else ((impl_Pulled.f k bt1281.1 bt1281.2.1 bt1281.2.2).bind fun t1296 => ((spec_Pulled.f k bt1281.1 bt1281.2.1 bt1281.2.2).bind fun t1297 => (if (t1296 != t1297) = true then (laws_FnMayFly.j0 k bt1281.1 bt1281.2.1 bt1281.2.2 t1286 bt1287.2.2 true bt1287.1 bt1287.2.1) else ((impl_Aboard.f k bt1281.1 bt1287.1 bt1281.2.2).bind fun t1298 => ((spec_Aboard.f k bt1281.1 bt1287.1 bt1281.2.2).bind fun t1299 => (laws_FnMayFly.j0 k bt1281.1 bt1281.2.1 bt1281.2.2 t1286 bt1287.2.2 (t1298 != t1299) bt1287.1 bt1287.2.1))))))))))))))) = some r := H
 have A2 := Aside0.mk A20
 clear A20
 by_cases c3 : t1280 = true
 ·
  subst c3
  have H1 : (some true) = some r := by rw [if_pos rfl] at H; exact H
  clear H
  have H := H1
  clear H1
  obtain rfl := Option.some.inj H
  go_enter Try.func18, Try.ntmps18
  go_wp2_with (first | ((with_reducible refine gate_callee (f := 55) rfl ?_); refine goesL_ (some 14) rfl rfl Try.func55 (by kernel_rfl) rfl #[.slice A0 l0.length c0] rfl (by (try simp only [List.map_toArray, List.map_cons, List.map_nil]); first | done | rfl | (simp only [List.length_drop, List.length_take]; rfl)) ?_; (with_reducible refine (laws_big.calls _ _ l0 true _ ?side1 ?side2 A2.out).mono ?_); (case side1 => repeat (first | exact HR0.out | (with_reducible refine Kd.C_alloc ?_ _) | (with_reducible refine Kd.C_drewN ?_ _) | (with_reducible refine Kd.C_drew ?_))); (case side2 => exact HC0.out); rintro e w' ⟨rfl, ⟨nd, rfl⟩⟩; refine ⟨_, rfl, ?_⟩))
  go_ret
  exact ⟨by first | rfl | (simp [errW_none, errW_some] <;> rfl) | (simp [*, errW_none, errW_some] <;> rfl), by repeat (first | (with_reducible first | exact HB.out | apply below_alloc | apply pw_below_drewN | apply below_drew1) | exact HB.out)⟩
 ·
  replace c3 := Bool.eq_false_iff.mpr c3
  subst c3
  have H1 : ((spec_DrawMayFly.f k l0).bind fun bt1281 => ((impl_MayFly.f k bt1281.1 bt1281.2.1 bt1281.2.2).bind fun t1286 => ((impl_OwnerOf.f k bt1281.1 bt1281.2.1).bind fun bt1287 => ((spec_OwnerOf.f k bt1281.1 bt1281.2.1).bind fun bt1291 => ((spec_MayFly.f k bt1281.1 bt1281.2.1 bt1281.2.2).bind fun t1295 => (if (t1286 != t1295) = true then (laws_FnMayFly.j0 k bt1281.1 bt1281.2.1 bt1281.2.2 t1286 bt1287.2.2 true bt1287.1 bt1287.2.1) else (if (bt1287.2.2 != bt1291.2.2) = true then (laws_FnMayFly.j0 k bt1281.1 bt1281.2.1 bt1281.2.2 t1286 bt1287.2.2 true bt1287.1 bt1287.2.1) else (if (!(bt1287.1 == bt1291.1) || (!(bt1287.2.1 == bt1291.2.1))) = true then (laws_FnMayFly.j0 k bt1281.1 bt1281.2.1 bt1281.2.2 t1286 bt1287.2.2 true bt1287.1 bt1287.2.1) else ((impl_Pulled.f k bt1281.1 bt1281.2.1 bt1281.2.2).bind fun t1296 => ((spec_Pulled.f k bt1281.1 bt1281.2.1 bt1281.2.2).bind fun t1297 => (if (t1296 != t1297) = true then (laws_FnMayFly.j0 k bt1281.1 bt1281.2.1 bt1281.2.2 t1286 bt1287.2.2 true bt1287.1 bt1287.2.1) else ((impl_Aboard.f k bt1281.1 bt1287.1 bt1281.2.2).bind fun t1298 => ((spec_Aboard.f k bt1281.1 bt1287.1 bt1281.2.2).bind fun t1299 => (laws_FnMayFly.j0 k bt1281.1 bt1281.2.1 bt1281.2.2 t1286 bt1287.2.2 (t1298 != t1299) bt1287.1 bt1287.2.1)))))))))))))) = some r := by rw [if_neg (show ¬ (false = true) by decide)] at H; exact H
  clear H
  have H := H1
  clear H1
  replace H := Option.bind_eq_some_iff.mp H
  obtain ⟨⟨t1281, t1282, t1283⟩, A40, H⟩ := H
  replace H : ((impl_MayFly.f k t1281 t1282 t1283).bind fun t1286 => ((impl_OwnerOf.f k t1281 t1282).bind fun bt1287 => ((spec_OwnerOf.f k t1281 t1282).bind fun bt1291 => ((spec_MayFly.f k t1281 t1282 t1283).bind fun t1295 => (if (t1286 != t1295) = true then (laws_FnMayFly.j0 k t1281 t1282 t1283 t1286 bt1287.2.2 true bt1287.1 bt1287.2.1) else (if (bt1287.2.2 != bt1291.2.2) = true then (laws_FnMayFly.j0 k t1281 t1282 t1283 t1286 bt1287.2.2 true bt1287.1 bt1287.2.1) else (if (!(bt1287.1 == bt1291.1) || (!(bt1287.2.1 == bt1291.2.1))) = true then (laws_FnMayFly.j0 k t1281 t1282 t1283 t1286 bt1287.2.2 true bt1287.1 bt1287.2.1) else ((impl_Pulled.f k t1281 t1282 t1283).bind fun t1296 => ((spec_Pulled.f k t1281 t1282 t1283).bind fun t1297 => (if (t1296 != t1297) = true then (laws_FnMayFly.j0 k t1281 t1282 t1283 t1286 bt1287.2.2 true bt1287.1 bt1287.2.1) else ((impl_Aboard.f k t1281 bt1287.1 t1283).bind fun t1298 => ((spec_Aboard.f k t1281 bt1287.1 t1283).bind fun t1299 => (laws_FnMayFly.j0 k t1281 t1282 t1283 t1286 bt1287.2.2 (t1298 != t1299) bt1287.1 bt1287.2.1))))))))))))) = some r := H
  have A4 := Aside0.mk A40
  clear A40
  replace H := Option.bind_eq_some_iff.mp H
  obtain ⟨t1286, A50, H⟩ := H
  replace H : ((impl_OwnerOf.f k t1281 t1282).bind fun bt1287 => ((spec_OwnerOf.f k t1281 t1282).bind fun bt1291 => ((spec_MayFly.f k t1281 t1282 t1283).bind fun t1295 => (if (t1286 != t1295) = true then (laws_FnMayFly.j0 k t1281 t1282 t1283 t1286 bt1287.2.2 true bt1287.1 bt1287.2.1) else (if (bt1287.2.2 != bt1291.2.2) = true then (laws_FnMayFly.j0 k t1281 t1282 t1283 t1286 bt1287.2.2 true bt1287.1 bt1287.2.1) else (if (!(bt1287.1 == bt1291.1) || (!(bt1287.2.1 == bt1291.2.1))) = true then (laws_FnMayFly.j0 k t1281 t1282 t1283 t1286 bt1287.2.2 true bt1287.1 bt1287.2.1) else ((impl_Pulled.f k t1281 t1282 t1283).bind fun t1296 => ((spec_Pulled.f k t1281 t1282 t1283).bind fun t1297 => (if (t1296 != t1297) = true then (laws_FnMayFly.j0 k t1281 t1282 t1283 t1286 bt1287.2.2 true bt1287.1 bt1287.2.1) else ((impl_Aboard.f k t1281 bt1287.1 t1283).bind fun t1298 => ((spec_Aboard.f k t1281 bt1287.1 t1283).bind fun t1299 => (laws_FnMayFly.j0 k t1281 t1282 t1283 t1286 bt1287.2.2 (t1298 != t1299) bt1287.1 bt1287.2.1)))))))))))) = some r := H
  have A5 := Aside0.mk A50
  clear A50
  replace H := Option.bind_eq_some_iff.mp H
  obtain ⟨⟨t1287, t1288, t1289⟩, A60, H⟩ := H
  replace H : ((spec_OwnerOf.f k t1281 t1282).bind fun bt1291 => ((spec_MayFly.f k t1281 t1282 t1283).bind fun t1295 => (if (t1286 != t1295) = true then (laws_FnMayFly.j0 k t1281 t1282 t1283 t1286 t1289 true t1287 t1288) else (if (t1289 != bt1291.2.2) = true then (laws_FnMayFly.j0 k t1281 t1282 t1283 t1286 t1289 true t1287 t1288) else (if (!(t1287 == bt1291.1) || (!(t1288 == bt1291.2.1))) = true then (laws_FnMayFly.j0 k t1281 t1282 t1283 t1286 t1289 true t1287 t1288) else ((impl_Pulled.f k t1281 t1282 t1283).bind fun t1296 => ((spec_Pulled.f k t1281 t1282 t1283).bind fun t1297 => (if (t1296 != t1297) = true then (laws_FnMayFly.j0 k t1281 t1282 t1283 t1286 t1289 true t1287 t1288) else ((impl_Aboard.f k t1281 t1287 t1283).bind fun t1298 => ((spec_Aboard.f k t1281 t1287 t1283).bind fun t1299 => (laws_FnMayFly.j0 k t1281 t1282 t1283 t1286 t1289 (t1298 != t1299) t1287 t1288))))))))))) = some r := H
  have A6 := Aside0.mk A60
  clear A60
  replace H := Option.bind_eq_some_iff.mp H
  obtain ⟨⟨t1291, t1292, t1293⟩, A70, H⟩ := H
  replace H : ((spec_MayFly.f k t1281 t1282 t1283).bind fun t1295 => (if (t1286 != t1295) = true then (laws_FnMayFly.j0 k t1281 t1282 t1283 t1286 t1289 true t1287 t1288) else (if (t1289 != t1293) = true then (laws_FnMayFly.j0 k t1281 t1282 t1283 t1286 t1289 true t1287 t1288) else (if (!(t1287 == t1291) || (!(t1288 == t1292))) = true then (laws_FnMayFly.j0 k t1281 t1282 t1283 t1286 t1289 true t1287 t1288) else ((impl_Pulled.f k t1281 t1282 t1283).bind fun t1296 => ((spec_Pulled.f k t1281 t1282 t1283).bind fun t1297 => (if (t1296 != t1297) = true then (laws_FnMayFly.j0 k t1281 t1282 t1283 t1286 t1289 true t1287 t1288) else ((impl_Aboard.f k t1281 t1287 t1283).bind fun t1298 => ((spec_Aboard.f k t1281 t1287 t1283).bind fun t1299 => (laws_FnMayFly.j0 k t1281 t1282 t1283 t1286 t1289 (t1298 != t1299) t1287 t1288)))))))))) = some r := H
  have A7 := Aside0.mk A70
  clear A70
  have HC8 := Aside0.mk H
  clear H
  go_enter Try.func18, Try.ntmps18
  go_upto_region 7 with (first | ((with_reducible refine gate_callee (f := 55) rfl ?_); refine goesL_ (some 14) rfl rfl Try.func55 (by kernel_rfl) rfl #[.slice A0 l0.length c0] rfl (by (try simp only [List.map_toArray, List.map_cons, List.map_nil]); first | done | rfl | (simp only [List.length_drop, List.length_take]; rfl)) ?_; (with_reducible refine (laws_big.calls _ _ l0 false _ ?side1 ?side2 A2.out).mono ?_); (case side1 => repeat (first | exact HR0.out | (with_reducible refine Kd.C_alloc ?_ _) | (with_reducible refine Kd.C_drewN ?_ _) | (with_reducible refine Kd.C_drew ?_))); (case side2 => exact HC0.out); rintro e w' ⟨rfl, ⟨nd, rfl⟩⟩; refine ⟨_, rfl, ?_⟩) | ((with_reducible refine gate_callee (f := 60) rfl ?_); refine goesL_ (some 17) rfl rfl Try.func60 (by kernel_rfl) rfl #[.slice A0 l0.length c0] rfl (by (try simp only [List.map_toArray, List.map_cons, List.map_nil]); first | done | rfl | (simp only [List.length_drop, List.length_take]; rfl)) ?_; (with_reducible refine (spec_DrawMayFly.calls k _ _ l0 t1281 t1282 t1283 _ ?side1 ?side2 A4.out).mono ?_); (case side1 => repeat (first | exact HR0.out | (with_reducible refine Kd.C_alloc ?_ _) | (with_reducible refine Kd.C_drewN ?_ _) | (with_reducible refine Kd.C_drew ?_))); (case side2 => exact HC0.out); rintro e w9 ⟨v1284, rfl, ho0, hb⟩; refine ⟨_, rfl, ?_⟩; have n0_ := Aside0.mk (Kd.R_lower ho0 (below_size (by repeat (first | (with_reducible first | exact HB.out | apply below_alloc | apply pw_below_drewN | apply below_drew1) | exact HB.out)))); have n1_ := Aside0.mk (below_step (by repeat (first | (with_reducible first | exact HB.out | apply below_alloc | apply pw_below_drewN | apply below_drew1) | exact HB.out)) hb); clear HB; have HO1285 := n0_; have HB := n1_; clear n0_ n1_; (try clear hb); (try clear hb2); (try clear hk); (try clear hi); (try clear ho0); obtain ⟨Ao10, co10, eo10⟩ := Kd.R_slice HO1285.out; subst eo10) | ((with_reducible refine gate_callee (f := 37) rfl ?_); refine goesL_ (some 24) rfl rfl Try.func37 (by kernel_rfl) rfl #[.slice Ao10 t1281.length co10, .int .i64 t1282, .int .i64 t1283] rfl (by (try simp only [List.map_toArray, List.map_cons, List.map_nil]); first | done | rfl | (simp only [List.length_drop, List.length_take]; rfl)) ?_; (with_reducible refine (impl_MayFly.calls k _ _ t1281 t1282 t1283 t1286 _ ?side1 ?side2 A5.out).mono ?_); (case side1 => repeat (first | exact (Kd.R_reads' HO1285.out).2.2 | (with_reducible refine Kd.C_alloc ?_ _) | (with_reducible refine Kd.C_drewN ?_ _) | (with_reducible refine Kd.C_drew ?_))); (case side2 => exact (Kd.R_reads' HO1285.out).2.1); rintro e w11 ⟨rfl, hb⟩; refine ⟨_, rfl, ?_⟩; have n0_ := Aside0.mk (Kd.R_below (by (with_reducible repeat (first | apply Kd.R_alloc | apply Kd.R_drewN | apply Kd.R_drew)); exact HO1285.out) hb); have n1_ := Aside0.mk (below_step (by repeat (first | (with_reducible first | exact HB.out | apply below_alloc | apply pw_below_drewN | apply below_drew1) | exact HB.out)) hb); clear HO1285; clear HB; have HO1285 := n0_; have HB := n1_; clear n0_ n1_; (try clear hb); (try clear hb2); (try clear hk); (try clear hi)) | ((with_reducible refine gate_callee (f := 34) rfl ?_); refine goesL_ (some 28) rfl rfl Try.func34 (by kernel_rfl) rfl #[.slice Ao10 t1281.length co10, .int .i64 t1282] rfl (by (try simp only [List.map_toArray, List.map_cons, List.map_nil]); first | done | rfl | (simp only [List.length_drop, List.length_take]; rfl)) ?_; (with_reducible refine (impl_OwnerOf.calls k _ _ t1281 t1282 t1287 t1288 t1289 _ ?side1 ?side2 A6.out).mono ?_); (case side1 => repeat (first | exact (Kd.R_reads' HO1285.out).2.2 | (with_reducible refine Kd.C_alloc ?_ _) | (with_reducible refine Kd.C_drewN ?_ _) | (with_reducible refine Kd.C_drew ?_))); (case side2 => exact (Kd.R_reads' HO1285.out).2.1); rintro e w12 ⟨rfl, hb⟩; refine ⟨_, rfl, ?_⟩; have n0_ := Aside0.mk (Kd.R_below (by (with_reducible repeat (first | apply Kd.R_alloc | apply Kd.R_drewN | apply Kd.R_drew)); exact HO1285.out) hb); have n1_ := Aside0.mk (below_step (by repeat (first | (with_reducible first | exact HB.out | apply below_alloc | apply pw_below_drewN | apply below_drew1) | exact HB.out)) hb); clear HO1285; clear HB; have HO1285 := n0_; have HB := n1_; clear n0_ n1_; (try clear hb); (try clear hb2); (try clear hk); (try clear hi)) | ((with_reducible refine gate_dst (N := 7) rfl ?_); (try (refine gate_guard (by rfl) ?_; dsimp only)); refine box_event ?hg (N := 7) ?hd (cs := #[.int .i64 0, .int .i64 0]) (t := 39) ?hr ?_; (case hd => rfl); (case hg => rfl); (case hr => first | (go_simp; done) | (go_simp; rfl)); intro gb1290 hg w13 hbox hb; have n0_ := Aside0.mk (Kd.R_below (by (with_reducible repeat (first | apply Kd.R_alloc | apply Kd.R_drewN | apply Kd.R_drew)); exact HO1285.out) hb); have n1_ := Aside0.mk (below_step (by repeat (first | (with_reducible first | exact HB.out | apply below_alloc | apply pw_below_drewN | apply below_drew1) | exact HB.out)) hb); have n2_ := Aside0.mk (hbox); have n3_ := Aside0.mk ((by rw [hg]; exact (below_size (by repeat (first | (with_reducible first | exact HB.out | apply below_alloc | apply pw_below_drewN | apply below_drew1) | exact HB.out))) : w.heap.size ≤ gb1290)); have n4_ := Aside0.mk ((by rw [hg]; exact (below_size (by repeat (first | (with_reducible first | exact HB.out | apply below_alloc | apply pw_below_drewN | apply below_drew1) | exact HB.out))) : w.heap.size ≤ gb1290)); clear HO1285; clear HB; have HO1285 := n0_; have HB := n1_; have BK1290 := n2_; have GW1290 := n3_; have GE1290 := n4_; clear n0_ n1_ n2_ n3_ n4_; clear hb hbox hg; have hcz14_0 : w13.cell? ⟨gb1290, 0, none⟩ = some (.int .i64 0) := (blk_cell BK1290.out 0).trans rfl; have hcz14_1 : w13.cell? ⟨gb1290, 1, none⟩ = some (.int .i64 0) := (blk_cell BK1290.out 1).trans rfl; have hfz14_0 := blk_frozen BK1290.out 0; have hfz14_1 := blk_frozen BK1290.out 1) | ((with_reducible refine gate_callee (f := 33) rfl ?_); refine goesL_ (some 34) rfl rfl Try.func33 (by kernel_rfl) rfl #[.slice Ao10 t1281.length co10, .int .i64 t1282] rfl (by (try simp only [List.map_toArray, List.map_cons, List.map_nil]); first | done | rfl | (simp only [List.length_drop, List.length_take]; rfl)) ?_; (with_reducible refine (spec_OwnerOf.calls k _ _ t1281 t1282 t1291 t1292 t1293 _ ?side1 ?side2 A7.out).mono ?_); (case side1 => refine (Kd.R_reads' (e := 25) (base := w.heap.size) (ok := fun k_ => True) (n := t1281.length) (c := co10) ?_).2.2; exact (by (with_reducible repeat (first | apply Kd.R_alloc | apply Kd.R_drewN | apply Kd.R_drew)); exact (Kd.R_mono (Kd.R_far (p := ⟨gb1290, 1, none⟩) (Kd.R_far (p := ⟨gb1290, 0, none⟩) (Kd.R_types HO1285.out BK1290.out (by decide)) (fun _ hk => hk.2) (.int .i64 t1287)) (fun _ hk => hk.2) (.int .i64 t1288)) (fun _ h_ => h_.1)))); (case side2 => exact (Kd.R_reads' HO1285.out).2.1); rintro e w15 ⟨rfl, hb⟩; refine ⟨_, rfl, ?_⟩; have n0_ := Aside0.mk (Kd.R_below (by (with_reducible repeat (first | apply Kd.R_alloc | apply Kd.R_drewN | apply Kd.R_drew)); exact (Kd.R_mono (Kd.R_far (p := ⟨gb1290, 1, none⟩) (Kd.R_far (p := ⟨gb1290, 0, none⟩) (Kd.R_types HO1285.out BK1290.out (by decide)) (fun _ hk => hk.2) (.int .i64 t1287)) (fun _ hk => hk.2) (.int .i64 t1288)) (fun _ h_ => h_.1))) hb); have n1_ := Aside0.mk (blk_below (g := gb1290) (o := .cells #[.int .i64 t1287, .int .i64 t1288] 39 (0, 0)) (by (with_reducible repeat (first | refine blk_drewN ?_ _ | refine blk_drew ?_ | refine blk_alloc ?_ _)); refine blk_put (cs := #[.int .i64 t1287, .int .i64 0]) ?_ 1 _ rfl; (with_reducible repeat (first | refine blk_drewN ?_ _ | refine blk_drew ?_ | refine blk_alloc ?_ _)); refine blk_put (cs := #[.int .i64 0, .int .i64 0]) ?_ 0 _ rfl; (with_reducible repeat (first | refine blk_drewN ?_ _ | refine blk_drew ?_ | refine blk_alloc ?_ _)); exact BK1290.out) hb); have n2_ := Aside0.mk (below_step (by repeat (first | (with_reducible first | exact HB.out | apply below_alloc | apply pw_below_drewN | apply below_drew1 | refine below_set ?_ GE1290.out) | exact HB.out)) hb); clear HO1285; clear BK1290; clear HB; have HO1285 := n0_; have BK1290 := n1_; have HB := n2_; clear n0_ n1_ n2_; (try clear hb); (try clear hb2); (try clear hk); (try clear hi)) | ((with_reducible refine gate_dst (N := 9) rfl ?_); (try (refine gate_guard (by rfl) ?_; dsimp only)); refine box_event ?hg (N := 9) ?hd (cs := #[.int .i64 0, .int .i64 0]) (t := 39) ?hr ?_; (case hd => rfl); (case hg => rfl); (case hr => first | (go_simp; done) | (go_simp; rfl)); intro gb1294 hg w16 hbox hb; have n0_ := Aside0.mk (Kd.R_below (by (with_reducible repeat (first | apply Kd.R_alloc | apply Kd.R_drewN | apply Kd.R_drew)); exact HO1285.out) hb); have n1_ := Aside0.mk (blk_below (g := gb1290) (o := .cells #[.int .i64 t1287, .int .i64 t1288] 39 (0, 0)) (by (with_reducible repeat (first | refine blk_drewN ?_ _ | refine blk_drew ?_ | refine blk_alloc ?_ _)); exact BK1290.out) hb); have n2_ := Aside0.mk (below_step (by repeat (first | (with_reducible first | exact HB.out | apply below_alloc | apply pw_below_drewN | apply below_drew1 | refine below_set ?_ GE1290.out) | exact HB.out)) hb); have n3_ := Aside0.mk (hbox); have n4_ := Aside0.mk ((by rw [hg]; exact (below_size (by repeat (first | (with_reducible first | exact HB.out | apply below_alloc | apply pw_below_drewN | apply below_drew1 | refine below_set ?_ GE1290.out) | exact HB.out))) : w.heap.size ≤ gb1294)); have n5_ := Aside0.mk ((by rw [hg]; exact (below_size (by repeat (first | (with_reducible first | exact HB.out | apply below_alloc | apply pw_below_drewN | apply below_drew1 | refine below_set ?_ GE1290.out) | exact HB.out))) : w.heap.size ≤ gb1294)); have n6_ := Aside0.mk ((by rw [hg]; exact Nat.ne_of_lt (blk_lt (g := gb1290) (o := .cells #[.int .i64 t1287, .int .i64 t1288] 39 (0, 0)) (by (with_reducible repeat (first | refine blk_drewN ?_ _ | refine blk_drew ?_ | refine blk_alloc ?_ _)); exact BK1290.out)) : gb1290 ≠ gb1294)); have n7_ := Aside0.mk ((by rw [hg]; exact Nat.ne_of_gt (blk_lt (g := gb1290) (o := .cells #[.int .i64 t1287, .int .i64 t1288] 39 (0, 0)) (by (with_reducible repeat (first | refine blk_drewN ?_ _ | refine blk_drew ?_ | refine blk_alloc ?_ _)); exact BK1290.out)) : gb1294 ≠ gb1290)); clear HO1285; clear BK1290; clear HB; have HO1285 := n0_; have BK1290 := n1_; have HB := n2_; have BK1294 := n3_; have GW1294 := n4_; have GE1294 := n5_; have NB1290_1294 := n6_; have NB1294_1290 := n7_; clear n0_ n1_ n2_ n3_ n4_ n5_ n6_ n7_; clear hb hbox hg; have hnb17 := NB1294_1290.out; have hnc17 := NB1290_1294.out; have hcz18_0 : w16.cell? ⟨gb1294, 0, none⟩ = some (.int .i64 0) := (blk_cell BK1294.out 0).trans rfl; have hcz18_1 : w16.cell? ⟨gb1294, 1, none⟩ = some (.int .i64 0) := (blk_cell BK1294.out 1).trans rfl; have hfz18_0 := blk_frozen BK1294.out 0; have hfz18_1 := blk_frozen BK1294.out 1))
  (try simp only [Act.put, List.setIfInBounds_toArray, List.set_cons_zero, List.set_cons_succ])
  go_cut [76] (fun v76 wc => ∃ (kq : Nat) (x76_7 : Bool), v76 = .bool x76_7 ∧ Aside0 (laws_FnMayFly.j0 kq t1281 t1282 t1283 t1286 t1289 x76_7 t1287 t1288 = some r) ∧ Aside0 (kq ≤ k) ∧ Aside0 (Kd.R k25 25 wc w.heap.size (fun _ => True) (.slice Ao10 t1281.length co10) t1281) ∧ Aside0 (wc.heap[gb1290]? = some (.cells #[.int .i64 t1287, .int .i64 t1288] 39 (0, 0))) ∧ Aside0 (wc.heap[gb1294]? = some (.cells #[.int .i64 t1291, .int .i64 t1292] 39 (0, 0))) ∧ Aside0 (Below w.heap.size w wc))
  case first =>
   have H := HC8.out
   clear HC8
   replace H := Option.bind_eq_some_iff.mp H
   obtain ⟨t1295, A190, H⟩ := H
   replace H : (if (t1286 != t1295) = true then (laws_FnMayFly.j0 k t1281 t1282 t1283 t1286 t1289 true t1287 t1288) else (if (t1289 != t1293) = true then (laws_FnMayFly.j0 k t1281 t1282 t1283 t1286 t1289 true t1287 t1288) else (if (!(t1287 == t1291) || (!(t1288 == t1292))) = true then (laws_FnMayFly.j0 k t1281 t1282 t1283 t1286 t1289 true t1287 t1288) else ((impl_Pulled.f k t1281 t1282 t1283).bind fun t1296 => ((spec_Pulled.f k t1281 t1282 t1283).bind fun t1297 => (if (t1296 != t1297) = true then (laws_FnMayFly.j0 k t1281 t1282 t1283 t1286 t1289 true t1287 t1288) else ((impl_Aboard.f k t1281 t1287 t1283).bind fun t1298 => ((spec_Aboard.f k t1281 t1287 t1283).bind fun t1299 => (laws_FnMayFly.j0 k t1281 t1282 t1283 t1286 t1289 (t1298 != t1299) t1287 t1288))))))))) = some r := H
   have A19 := Aside0.mk A190
   clear A190
   by_cases c20 : (t1286 != t1295) = true
   ·
    rw [if_pos c20] at H
    exact absurd H (by rw [HRT.out]; cases k with | zero => simp [laws_FnMayFly.j0] | succ k => simp [laws_FnMayFly.j0])
   ·
    rw [if_neg c20] at H
    have c20b0 : (t1286 != t1295) = false := by simpa using c20
    (try (have c20b1 : decide (t1286 = t1295) = true := by simpa using c20))
    (try (have c20b2 : (t1286 == t1295) = true := by simpa using c20))
    clear c20
    (first | rw [c20b0] | (simp only [i64_w, i32_w]; rw [c20b0]) | skip)
    by_cases c24 : (t1289 != t1293) = true
    ·
     rw [if_pos c24] at H
     exact absurd H (by rw [HRT.out]; cases k with | zero => simp [laws_FnMayFly.j0] | succ k => simp [laws_FnMayFly.j0])
    ·
     rw [if_neg c24] at H
     have c24b0 : (t1289 != t1293) = false := by simpa using c24
     (try (have c24b1 : decide (t1289 = t1293) = true := by simpa using c24))
     (try (have c24b2 : (t1289 == t1293) = true := by simpa using c24))
     clear c24
     by_cases c28 : (!(t1287 == t1291) || (!(t1288 == t1292))) = true
     ·
      rw [if_pos c28] at H
      exact absurd H (by rw [HRT.out]; cases k with | zero => simp [laws_FnMayFly.j0] | succ k => simp [laws_FnMayFly.j0])
     ·
      rw [if_neg c28] at H
      have c28b0 : (!(t1287 == t1291) || (!(t1288 == t1292))) = false := by simpa using c28
      clear c28
      replace H := Option.bind_eq_some_iff.mp H
      obtain ⟨t1296, A320, H⟩ := H
      replace H : ((spec_Pulled.f k t1281 t1282 t1283).bind fun t1297 => (if (t1296 != t1297) = true then (laws_FnMayFly.j0 k t1281 t1282 t1283 t1286 t1289 true t1287 t1288) else ((impl_Aboard.f k t1281 t1287 t1283).bind fun t1298 => ((spec_Aboard.f k t1281 t1287 t1283).bind fun t1299 => (laws_FnMayFly.j0 k t1281 t1282 t1283 t1286 t1289 (t1298 != t1299) t1287 t1288))))) = some r := H
      have A32 := Aside0.mk A320
      clear A320
      replace H := Option.bind_eq_some_iff.mp H
      obtain ⟨t1297, A330, H⟩ := H
      replace H : (if (t1296 != t1297) = true then (laws_FnMayFly.j0 k t1281 t1282 t1283 t1286 t1289 true t1287 t1288) else ((impl_Aboard.f k t1281 t1287 t1283).bind fun t1298 => ((spec_Aboard.f k t1281 t1287 t1283).bind fun t1299 => (laws_FnMayFly.j0 k t1281 t1282 t1283 t1286 t1289 (t1298 != t1299) t1287 t1288)))) = some r := H
      have A33 := Aside0.mk A330
      clear A330
      by_cases c34 : (t1296 != t1297) = true
      ·
       rw [if_pos c34] at H
       exact absurd H (by rw [HRT.out]; cases k with | zero => simp [laws_FnMayFly.j0] | succ k => simp [laws_FnMayFly.j0])
      ·
       rw [if_neg c34] at H
       have c34b0 : (t1296 != t1297) = false := by simpa using c34
       (try (have c34b1 : decide (t1296 = t1297) = true := by simpa using c34))
       (try (have c34b2 : (t1296 == t1297) = true := by simpa using c34))
       clear c34
       replace H := Option.bind_eq_some_iff.mp H
       obtain ⟨t1298, A400, H⟩ := H
       replace H : ((spec_Aboard.f k t1281 t1287 t1283).bind fun t1299 => (laws_FnMayFly.j0 k t1281 t1282 t1283 t1286 t1289 (t1298 != t1299) t1287 t1288)) = some r := H
       have A40 := Aside0.mk A400
       clear A400
       replace H := Option.bind_eq_some_iff.mp H
       obtain ⟨t1299, A410, H⟩ := H
       replace H : (laws_FnMayFly.j0 k t1281 t1282 t1283 t1286 t1289 (t1298 != t1299) t1287 t1288) = some r := H
       have A41 := Aside0.mk A410
       clear A410
       have H' := Aside0.mk H
       clear H
       try go_wp2
       have n0_ : Aside0 (Kd.R k25 25 ((w16.setCell ⟨gb1294, 0, none⟩ (.int .i64 t1291)).setCell ⟨gb1294, 1, none⟩ (.int .i64 t1292)) w.heap.size (fun _ => True) (.slice Ao10 t1281.length co10) t1281) := ⟨by (with_reducible repeat (first | apply Kd.R_alloc | apply Kd.R_drewN | apply Kd.R_drew)); exact Kd.R_mono (Kd.R_far (p := ⟨gb1294, 1, none⟩) (Kd.R_far (p := ⟨gb1294, 0, none⟩) (Kd.R_types HO1285.out BK1294.out (by decide)) (fun _ hk => hk.2) (.int .i64 t1291)) (fun _ hk => hk.2) (.int .i64 t1292)) (fun _ hk => trivial)⟩
       have n1_ : Aside0 (((w16.setCell ⟨gb1294, 0, none⟩ (.int .i64 t1291)).setCell ⟨gb1294, 1, none⟩ (.int .i64 t1292)).heap[gb1290]? = some (.cells #[.int .i64 t1287, .int .i64 t1288] 39 (0, 0))) := ⟨by (with_reducible repeat (first | refine blk_drewN ?_ _ | refine blk_drew ?_ | refine blk_alloc ?_ _)); refine blk_far ?_ NB1290_1294.out _; (with_reducible repeat (first | refine blk_drewN ?_ _ | refine blk_drew ?_ | refine blk_alloc ?_ _)); refine blk_far ?_ NB1290_1294.out _; (with_reducible repeat (first | refine blk_drewN ?_ _ | refine blk_drew ?_ | refine blk_alloc ?_ _)); exact BK1290.out⟩
       have n2_ : Aside0 (((w16.setCell ⟨gb1294, 0, none⟩ (.int .i64 t1291)).setCell ⟨gb1294, 1, none⟩ (.int .i64 t1292)).heap[gb1294]? = some (.cells #[.int .i64 t1291, .int .i64 t1292] 39 (0, 0))) := ⟨by (with_reducible repeat (first | refine blk_drewN ?_ _ | refine blk_drew ?_ | refine blk_alloc ?_ _)); refine blk_put (cs := #[.int .i64 t1291, .int .i64 0]) ?_ 1 _ rfl; (with_reducible repeat (first | refine blk_drewN ?_ _ | refine blk_drew ?_ | refine blk_alloc ?_ _)); refine blk_put (cs := #[.int .i64 0, .int .i64 0]) ?_ 0 _ rfl; (with_reducible repeat (first | refine blk_drewN ?_ _ | refine blk_drew ?_ | refine blk_alloc ?_ _)); exact BK1294.out⟩
       have n3_ : Aside0 (Below w.heap.size w ((w16.setCell ⟨gb1294, 0, none⟩ (.int .i64 t1291)).setCell ⟨gb1294, 1, none⟩ (.int .i64 t1292))) := ⟨by repeat (first | (with_reducible first | exact HB.out | apply below_alloc | apply pw_below_drewN | apply below_drew1 | refine below_set ?_ GE1290.out | refine below_set ?_ GE1294.out) | exact HB.out)⟩
       (try clear HO1285)
       (try clear BK1290)
       (try clear BK1294)
       (try clear HB)
       generalize ((w16.setCell ⟨gb1294, 0, none⟩ (.int .i64 t1291)).setCell ⟨gb1294, 1, none⟩ (.int .i64 t1292)) = w42 at n0_ n1_ n2_ n3_ ⊢
       have HO1285 := n0_
       have BK1290 := n1_
       have BK1294 := n2_
       have HB := n3_
       clear n0_ n1_ n2_ n3_
       have n0_ := Aside0.mk (Kd.R_drew HO1285.out)
       have n1_ := Aside0.mk (blk_drew BK1290.out)
       have n2_ := Aside0.mk (blk_drew BK1294.out)
       have n3_ := Aside0.mk (below_drew1 HB.out)
       clear HO1285
       clear BK1290
       clear BK1294
       clear HB
       have HO1285 := n0_
       have BK1290 := n1_
       have BK1294 := n2_
       have HB := n3_
       clear n0_ n1_ n2_ n3_
       refine start_ (n := 40) (S := fun w' => w'.cell? ⟨gb1290, 0, none⟩ = some (.int .i64 t1287) ∧ w'.cell? ⟨gb1290, 1, none⟩ = some (.int .i64 t1288) ∧ w'.cell? ⟨gb1294, 0, none⟩ = some (.int .i64 t1291) ∧ w'.cell? ⟨gb1294, 1, none⟩ = some (.int .i64 t1292)) (ds := []) #[false, false, false, false, false, false, false, false, false, false, false, false, false, false, false, false, false, false, false, false, false, false, false, false, false, false, false, false, false, false, false, false, false, false, false, false, false, false, false, false] (by kernel_rfl) rfl rfl ⟨(blk_cell BK1290.out 0).trans rfl, (blk_cell BK1290.out 1).trans rfl, (blk_cell BK1294.out 0).trans rfl, (blk_cell BK1294.out 1).trans rfl⟩ (fun hHeld => ?_); refine with_tabW laws_FnMayFly.tab7 laws_FnMayFly.bits7 (fun HT_ HW_ => ?_)
       generalize w42.drew = w43 at HO1285 BK1290 BK1294 HB hHeld ⊢
       refine pure_ (i := 0) (N := some 37) (v := ?_) (a' := ?_) #[true, false, false, false, false, false, false, false, false, false, false, false, false, false, false, false, false, false, false, false, false, false, false, false, false, false, false, false, false, false, false, false, false, false, false, false, false, false, false, false] rfl rfl (any_of HT_.out (by kernel_rfl)) (fun _ _ _ h => h) (Or.inl ⟨by rfl, ?_⟩) ?_ ?_
       rotate_left
       ·
        intro w'
        go_simp
        with_reducible rfl
       rotate_left
       ·
        simp only [Act.put, List.setIfInBounds_toArray, List.set_cons_zero, List.set_cons_succ, i64_w, i32_w]
        rfl
       refine pure_ (i := 1) (N := some 38) (v := ?_) (a' := ?_) #[true, true, false, false, false, false, false, false, false, false, false, false, false, false, false, false, false, false, false, false, false, false, false, false, false, false, false, false, false, false, false, false, false, false, false, false, false, false, false, false] rfl rfl (any_of HT_.out (by kernel_rfl)) (fun _ _ _ h => h) (Or.inl ⟨by rfl, ?_⟩) ?_ ?_
       rotate_left
       ·
        intro w'
        go_simp
        with_reducible rfl
       rotate_left
       ·
        simp only [Act.put, List.setIfInBounds_toArray, List.set_cons_zero, List.set_cons_succ, i64_w, i32_w]
        rfl
       refine pure_ (i := 2) (N := some 39) (v := ?_) (a' := ?_) #[true, true, true, false, false, false, false, false, false, false, false, false, false, false, false, false, false, false, false, false, false, false, false, false, false, false, false, false, false, false, false, false, false, false, false, false, false, false, false, false] rfl rfl (any_of HT_.out (by kernel_rfl)) (fun _ _ _ h => h) (Or.inl ⟨by rfl, ?_⟩) ?_ ?_
       rotate_left
       ·
        intro w'
        go_simp
        with_reducible rfl
       rotate_left
       ·
        simp only [Act.put, List.setIfInBounds_toArray, List.set_cons_zero, List.set_cons_succ, i64_w, i32_w]
        rfl
       refine pure_ (i := 3) (N := some 40) (v := ?_) (a' := ?_) #[true, true, true, true, false, false, false, false, false, false, false, false, false, false, false, false, false, false, false, false, false, false, false, false, false, false, false, false, false, false, false, false, false, false, false, false, false, false, false, false] rfl rfl (any_of HT_.out (by kernel_rfl)) (fun _ _ _ h => h) (Or.inl ⟨by rfl, ?_⟩) ?_ ?_
       rotate_left
       ·
        intro w'
        go_simp
        with_reducible rfl
       rotate_left
       ·
        simp only [Act.put, List.setIfInBounds_toArray, List.set_cons_zero, List.set_cons_succ, i64_w, i32_w]
        rfl
       refine one_ (i := 4) (N := some 41) #[true, true, true, true, true, false, false, false, false, false, false, false, false, false, false, false, false, false, false, false, false, false, false, false, false, false, false, false, false, false, false, false, false, false, false, false, false, false, false, false] rfl rfl (one_of HT_.out (by kernel_rfl)) (by decide) (fun K hK => ?_)
       refine goes_ Try.func36 (by kernel_rfl) rfl #[.slice Ao10 t1281.length co10, .int .i64 t1282, .int .i64 t1283] (by rfl) rfl rfl (by (try simp only [List.map_toArray, List.map_cons, List.map_nil]); first | done | rfl | (simp only [List.length_drop, List.length_take]; rfl)) ?_
       with_reducible refine (spec_MayFly.calls k _ _ t1281 t1282 t1283 t1295 _ ?side1 ?side2 A19.out).mono ?_
       (case side1 => repeat (first | exact (Kd.R_reads' HO1285.out).2.2 | (with_reducible refine Kd.C_alloc ?_ _) | (with_reducible refine Kd.C_drewN ?_ _) | (with_reducible refine Kd.C_drew ?_)))
       (case side2 => exact (Kd.R_reads' HO1285.out).2.1)
       rintro e w44 ⟨rfl, hb⟩
       refine ⟨_, rfl, ?_⟩
       have n0_ := Aside0.mk (Kd.R_below (by (with_reducible repeat (first | apply Kd.R_alloc | apply Kd.R_drewN | apply Kd.R_drew)); exact HO1285.out) hb)
       have n1_ := Aside0.mk (blk_below (g := gb1290) (o := .cells #[.int .i64 t1287, .int .i64 t1288] 39 (0, 0)) (by (with_reducible repeat (first | refine blk_drewN ?_ _ | refine blk_drew ?_ | refine blk_alloc ?_ _)); exact BK1290.out) hb)
       have n2_ := Aside0.mk (blk_below (g := gb1294) (o := .cells #[.int .i64 t1291, .int .i64 t1292] 39 (0, 0)) (by (with_reducible repeat (first | refine blk_drewN ?_ _ | refine blk_drew ?_ | refine blk_alloc ?_ _)); exact BK1294.out) hb)
       have n3_ := Aside0.mk (below_step (by repeat (first | (with_reducible first | exact HB.out | apply below_alloc | apply pw_below_drewN | apply below_drew1 | refine below_set ?_ GE1290.out | refine below_set ?_ GE1294.out) | exact HB.out)) hb)
       clear HO1285
       clear BK1290
       clear BK1294
       clear HB
       have HO1285 := n0_
       have BK1290 := n1_
       have BK1294 := n2_
       have HB := n3_
       clear n0_ n1_ n2_ n3_
       (try clear hb)
       (try clear hb2)
       (try clear hk)
       (try clear hi)
       refine hK.out _ _ ⟨(blk_cell BK1290.out 0).trans rfl, (blk_cell BK1290.out 1).trans rfl, (blk_cell BK1294.out 0).trans rfl, (blk_cell BK1294.out 1).trans rfl⟩ (fun hHeld => ?_)
       clear hK K
       refine norm_ (a' := ?_) ?_ ?_
       rotate_left
       ·
        show Act.put _ (some 41) _ = _
        simp only [Act.put, List.setIfInBounds_toArray, List.set_cons_zero, List.set_cons_succ, i64_w, i32_w]
        rfl
       refine pure_ (i := 5) (N := some 42) (v := ?_) (a' := ?_) #[true, true, true, true, true, true, false, false, false, false, false, false, false, false, false, false, false, false, false, false, false, false, false, false, false, false, false, false, false, false, false, false, false, false, false, false, false, false, false, false] rfl rfl (any_of HT_.out (by kernel_rfl)) (fun _ _ _ h => h) (Or.inl ⟨by rfl, ?_⟩) ?_ ?_
       rotate_left
       ·
        intro w'
        go_simp
        with_reducible rfl
       rotate_left
       ·
        simp only [Act.put, List.setIfInBounds_toArray, List.set_cons_zero, List.set_cons_succ, i64_w, i32_w]
        rfl
       refine pure_ (i := 6) (N := some 43) (v := ?_) (a' := ?_) #[true, true, true, true, true, true, true, false, false, false, false, false, false, false, false, false, false, false, false, false, false, false, false, false, false, false, false, false, false, false, false, false, false, false, false, false, false, false, false, false] rfl rfl (any_of HT_.out (by kernel_rfl)) (fun _ _ _ h => h) (Or.inl ⟨by rfl, ?_⟩) ?_ ?_
       rotate_left
       ·
        intro w'
        go_simp
        with_reducible rfl
       rotate_left
       ·
        simp only [Act.put, List.setIfInBounds_toArray, List.set_cons_zero, List.set_cons_succ, i64_w, i32_w]
        rfl
       refine pure_ (i := 7) (N := some 44) (v := ?_) (a' := ?_) #[true, true, true, true, true, true, true, true, false, false, false, false, false, false, false, false, false, false, false, false, false, false, false, false, false, false, false, false, false, false, false, false, false, false, false, false, false, false, false, false] rfl rfl (any_of HT_.out (by kernel_rfl)) (fun _ _ _ h => h) (Or.inl ⟨by rfl, ?_⟩) ?_ ?_
       rotate_left
       ·
        intro w'
        go_simp
        with_reducible rfl
       rotate_left
       ·
        simp only [Act.put, List.setIfInBounds_toArray, List.set_cons_zero, List.set_cons_succ, i64_w, i32_w]
        rfl
       refine pure_ (i := 8) (N := some 45) (v := ?_) (a' := ?_) #[true, true, true, true, true, true, true, true, true, false, false, false, false, false, false, false, false, false, false, false, false, false, false, false, false, false, false, false, false, false, false, false, false, false, false, false, false, false, false, false] rfl rfl (any_of HT_.out (by kernel_rfl)) (fun _ _ _ h => h) (Or.inl ⟨by rfl, ?_⟩) ?_ ?_
       rotate_left
       ·
        intro w'
        go_simp
        with_reducible rfl
       rotate_left
       ·
        simp only [Act.put, List.setIfInBounds_toArray, List.set_cons_zero, List.set_cons_succ, i64_w, i32_w]
        rfl
       refine pure_ (i := 9) (N := some 46) (v := ?_) (a' := ?_) #[true, true, true, true, true, true, true, true, true, true, false, false, false, false, false, false, false, false, false, false, false, false, false, false, false, false, false, false, false, false, false, false, false, false, false, false, false, false, false, false] rfl rfl (any_of HT_.out (by kernel_rfl)) (fun _ _ _ h => h) (Or.inl ⟨by rfl, ?_⟩) ?_ ?_
       rotate_left
       ·
        intro w'
        go_simp
        with_reducible rfl
       rotate_left
       ·
        simp only [Act.put, List.setIfInBounds_toArray, List.set_cons_zero, List.set_cons_succ, i64_w, i32_w]
        rfl
       refine pure_ (i := 10) (N := some 47) (v := ?_) (a' := ?_) #[true, true, true, true, true, true, true, true, true, true, true, false, false, false, false, false, false, false, false, false, false, false, false, false, false, false, false, false, false, false, false, false, false, false, false, false, false, false, false, false] rfl rfl (any_of HT_.out (by kernel_rfl)) (fun _ _ _ h => h) (Or.inl ⟨by rfl, ?_⟩) ?_ ?_
       rotate_left
       ·
        intro w'
        go_simp
        with_reducible rfl
       rotate_left
       ·
        simp only [Act.put, List.setIfInBounds_toArray, List.set_cons_zero, List.set_cons_succ, i64_w, i32_w]
        rfl
       refine pure_ (i := 11) (N := some 48) (v := ?_) (a' := ?_) #[true, true, true, true, true, true, true, true, true, true, true, true, false, false, false, false, false, false, false, false, false, false, false, false, false, false, false, false, false, false, false, false, false, false, false, false, false, false, false, false] rfl rfl (any_of HT_.out (by kernel_rfl)) (fun _ _ _ h => h) (Or.inl ⟨by rfl, ?_⟩) ?_ ?_
       rotate_left
       ·
        intro w'
        go_simp
        with_reducible rfl
       rotate_left
       ·
        simp only [Act.put, List.setIfInBounds_toArray, List.set_cons_zero, List.set_cons_succ, i64_w, i32_w]
        rfl
       refine take_ (i := 12) (N := some 49) (v := ?_) (a' := ?_) #[true, true, true, true, true, true, true, true, true, true, true, true, true, false, false, false, false, false, false, false, false, false, false, false, false, false, false, false, false, false, false, false, false, false, false, false, false, false, false, false] rfl rfl (take_ofW HT_.out HW_.out (by kernel_rfl)) (fun _ _ _ h => h) (Or.inl ⟨by rfl, ?_⟩) hHeld ?_ ?_
       rotate_left
       ·
        rintro w' ⟨s0, s1, s2, s3⟩
        go_simp
        with_reducible rfl
       rotate_left
       ·
        simp only [Act.put, List.setIfInBounds_toArray, List.set_cons_zero, List.set_cons_succ, i64_w, i32_w]
        rfl
       refine take_ (i := 13) (N := some 50) (v := ?_) (a' := ?_) #[true, true, true, true, true, true, true, true, true, true, true, true, true, true, false, false, false, false, false, false, false, false, false, false, false, false, false, false, false, false, false, false, false, false, false, false, false, false, false, false] rfl rfl (take_ofW HT_.out HW_.out (by kernel_rfl)) (fun _ _ _ h => h) (Or.inl ⟨by rfl, ?_⟩) hHeld ?_ ?_
       rotate_left
       ·
        rintro w' ⟨s0, s1, s2, s3⟩
        go_simp
        with_reducible rfl
       rotate_left
       ·
        simp only [Act.put, List.setIfInBounds_toArray, List.set_cons_zero, List.set_cons_succ, i64_w, i32_w]
        rfl
       refine pure_ (i := 14) (N := some 51) (v := ?_) (a' := ?_) #[true, true, true, true, true, true, true, true, true, true, true, true, true, true, true, false, false, false, false, false, false, false, false, false, false, false, false, false, false, false, false, false, false, false, false, false, false, false, false, false] rfl rfl (any_of HT_.out (by kernel_rfl)) (fun _ _ _ h => h) (Or.inl ⟨by rfl, ?_⟩) ?_ ?_
       rotate_left
       ·
        intro w'
        go_simp
        with_reducible rfl
       rotate_left
       ·
        simp only [Act.put, List.setIfInBounds_toArray, List.set_cons_zero, List.set_cons_succ, i64_w, i32_w]
        rfl
       refine pure_ (i := 15) (N := some 52) (v := ?_) (a' := ?_) #[true, true, true, true, true, true, true, true, true, true, true, true, true, true, true, true, false, false, false, false, false, false, false, false, false, false, false, false, false, false, false, false, false, false, false, false, false, false, false, false] rfl rfl (any_of HT_.out (by kernel_rfl)) (fun _ _ _ h => h) (Or.inl ⟨by rfl, ?_⟩) ?_ ?_
       rotate_left
       ·
        intro w'
        go_simp
        with_reducible rfl
       rotate_left
       ·
        simp only [Act.put, List.setIfInBounds_toArray, List.set_cons_zero, List.set_cons_succ, i64_w, i32_w]
        rfl
       refine pure_ (i := 16) (N := some 53) (v := ?_) (a' := ?_) #[true, true, true, true, true, true, true, true, true, true, true, true, true, true, true, true, true, false, false, false, false, false, false, false, false, false, false, false, false, false, false, false, false, false, false, false, false, false, false, false] rfl rfl (any_of HT_.out (by kernel_rfl)) (fun _ _ _ h => h) (Or.inl ⟨by rfl, ?_⟩) ?_ ?_
       rotate_left
       ·
        intro w'
        go_simp
        with_reducible rfl
       rotate_left
       ·
        simp only [Act.put, List.setIfInBounds_toArray, List.set_cons_zero, List.set_cons_succ, i64_w, i32_w]
        rfl
       refine pure_ (i := 17) (N := some 54) (v := ?_) (a' := ?_) #[true, true, true, true, true, true, true, true, true, true, true, true, true, true, true, true, true, true, false, false, false, false, false, false, false, false, false, false, false, false, false, false, false, false, false, false, false, false, false, false] rfl rfl (any_of HT_.out (by kernel_rfl)) (fun _ _ _ h => h) (Or.inl ⟨by rfl, ?_⟩) ?_ ?_
       rotate_left
       ·
        intro w'
        go_simp
        with_reducible rfl
       rotate_left
       ·
        simp only [Act.put, List.setIfInBounds_toArray, List.set_cons_zero, List.set_cons_succ, i64_w, i32_w]
        rfl
       refine pure_ (i := 18) (N := some 55) (v := ?_) (a' := ?_) #[true, true, true, true, true, true, true, true, true, true, true, true, true, true, true, true, true, true, true, false, false, false, false, false, false, false, false, false, false, false, false, false, false, false, false, false, false, false, false, false] rfl rfl (any_of HT_.out (by kernel_rfl)) (fun _ _ _ h => h) (Or.inl ⟨by rfl, ?_⟩) ?_ ?_
       rotate_left
       ·
        intro w'
        go_simp
        with_reducible rfl
       rotate_left
       ·
        simp only [Act.put, List.setIfInBounds_toArray, List.set_cons_zero, List.set_cons_succ, i64_w, i32_w]
        rfl
       refine pure_ (i := 19) (N := some 56) (v := ?_) (a' := ?_) #[true, true, true, true, true, true, true, true, true, true, true, true, true, true, true, true, true, true, true, true, false, false, false, false, false, false, false, false, false, false, false, false, false, false, false, false, false, false, false, false] rfl rfl (any_of HT_.out (by kernel_rfl)) (fun _ _ _ h => h) (Or.inl ⟨by rfl, ?_⟩) ?_ ?_
       rotate_left
       ·
        intro w'
        go_simp
        with_reducible rfl
       rotate_left
       ·
        simp only [Act.put, List.setIfInBounds_toArray, List.set_cons_zero, List.set_cons_succ, i64_w, i32_w]
        rfl
       refine pure_ (i := 21) (N := some 58) (v := ?_) (a' := ?_) #[true, true, true, true, true, true, true, true, true, true, true, true, true, true, true, true, true, true, true, true, false, true, false, false, false, false, false, false, false, false, false, false, false, false, false, false, false, false, false, false] rfl rfl (any_of HT_.out (by kernel_rfl)) (fun _ _ _ h => h) (Or.inl ⟨by rfl, ?_⟩) ?_ ?_
       rotate_left
       ·
        intro w'
        go_simp
        with_reducible rfl
       rotate_left
       ·
        simp only [Act.put, List.setIfInBounds_toArray, List.set_cons_zero, List.set_cons_succ, i64_w, i32_w]
        rfl
       refine pure_ (i := 22) (N := some 59) (v := ?_) (a' := ?_) #[true, true, true, true, true, true, true, true, true, true, true, true, true, true, true, true, true, true, true, true, false, true, true, false, false, false, false, false, false, false, false, false, false, false, false, false, false, false, false, false] rfl rfl (any_of HT_.out (by kernel_rfl)) (fun _ _ _ h => h) (Or.inl ⟨by rfl, ?_⟩) ?_ ?_
       rotate_left
       ·
        intro w'
        go_simp
        with_reducible rfl
       rotate_left
       ·
        simp only [Act.put, List.setIfInBounds_toArray, List.set_cons_zero, List.set_cons_succ, i64_w, i32_w]
        rfl
       refine pure_ (i := 23) (N := some 60) (v := ?_) (a' := ?_) #[true, true, true, true, true, true, true, true, true, true, true, true, true, true, true, true, true, true, true, true, false, true, true, true, false, false, false, false, false, false, false, false, false, false, false, false, false, false, false, false] rfl rfl (any_of HT_.out (by kernel_rfl)) (fun _ _ _ h => h) (Or.inl ⟨by rfl, ?_⟩) ?_ ?_
       rotate_left
       ·
        intro w'
        go_simp
        with_reducible rfl
       rotate_left
       ·
        simp only [Act.put, List.setIfInBounds_toArray, List.set_cons_zero, List.set_cons_succ, i64_w, i32_w]
        rfl
       refine one_ (i := 20) (N := some 57) #[true, true, true, true, true, true, true, true, true, true, true, true, true, true, true, true, true, true, true, true, true, true, true, true, false, false, false, false, false, false, false, false, false, false, false, false, false, false, false, false] rfl rfl (one_of HT_.out (by kernel_rfl)) (by decide) (fun K hK => ?_)
       refine goes_ Try.func32 (by kernel_rfl) rfl #[.slice Ao10 t1281.length co10, .int .i64 t1282, .int .i64 t1283] (by rfl) rfl rfl (by (try simp only [List.map_toArray, List.map_cons, List.map_nil]); first | done | rfl | (simp only [List.length_drop, List.length_take]; rfl)) ?_
       with_reducible refine (impl_Pulled.calls k _ _ t1281 t1282 t1283 t1296 _ ?side1 ?side2 A32.out).mono ?_
       (case side1 => repeat (first | exact (Kd.R_reads' HO1285.out).2.2 | (with_reducible refine Kd.C_alloc ?_ _) | (with_reducible refine Kd.C_drewN ?_ _) | (with_reducible refine Kd.C_drew ?_)))
       (case side2 => exact (Kd.R_reads' HO1285.out).2.1)
       rintro e w45 ⟨rfl, hb⟩
       refine ⟨_, rfl, ?_⟩
       have n0_ := Aside0.mk (Kd.R_below (by (with_reducible repeat (first | apply Kd.R_alloc | apply Kd.R_drewN | apply Kd.R_drew)); exact HO1285.out) hb)
       have n1_ := Aside0.mk (blk_below (g := gb1290) (o := .cells #[.int .i64 t1287, .int .i64 t1288] 39 (0, 0)) (by (with_reducible repeat (first | refine blk_drewN ?_ _ | refine blk_drew ?_ | refine blk_alloc ?_ _)); exact BK1290.out) hb)
       have n2_ := Aside0.mk (blk_below (g := gb1294) (o := .cells #[.int .i64 t1291, .int .i64 t1292] 39 (0, 0)) (by (with_reducible repeat (first | refine blk_drewN ?_ _ | refine blk_drew ?_ | refine blk_alloc ?_ _)); exact BK1294.out) hb)
       have n3_ := Aside0.mk (below_step (by repeat (first | (with_reducible first | exact HB.out | apply below_alloc | apply pw_below_drewN | apply below_drew1 | refine below_set ?_ GE1290.out | refine below_set ?_ GE1294.out) | exact HB.out)) hb)
       clear HO1285
       clear BK1290
       clear BK1294
       clear HB
       have HO1285 := n0_
       have BK1290 := n1_
       have BK1294 := n2_
       have HB := n3_
       clear n0_ n1_ n2_ n3_
       (try clear hb)
       (try clear hb2)
       (try clear hk)
       (try clear hi)
       refine hK.out _ _ ⟨(blk_cell BK1290.out 0).trans rfl, (blk_cell BK1290.out 1).trans rfl, (blk_cell BK1294.out 0).trans rfl, (blk_cell BK1294.out 1).trans rfl⟩ (fun hHeld => ?_)
       clear hK K
       refine norm_ (a' := ?_) ?_ ?_
       rotate_left
       ·
        show Act.put _ (some 57) _ = _
        simp only [Act.put, List.setIfInBounds_toArray, List.set_cons_zero, List.set_cons_succ, i64_w, i32_w]
        rfl
       refine one_ (i := 24) (N := some 61) #[true, true, true, true, true, true, true, true, true, true, true, true, true, true, true, true, true, true, true, true, true, true, true, true, true, false, false, false, false, false, false, false, false, false, false, false, false, false, false, false] rfl rfl (one_of HT_.out (by kernel_rfl)) (by decide) (fun K hK => ?_)
       refine goes_ Try.func31 (by kernel_rfl) rfl #[.slice Ao10 t1281.length co10, .int .i64 t1282, .int .i64 t1283] (by rfl) rfl rfl (by (try simp only [List.map_toArray, List.map_cons, List.map_nil]); first | done | rfl | (simp only [List.length_drop, List.length_take]; rfl)) ?_
       with_reducible refine (spec_Pulled.calls k _ _ t1281 t1282 t1283 t1297 _ ?side1 ?side2 A33.out).mono ?_
       (case side1 => repeat (first | exact (Kd.R_reads' HO1285.out).2.2 | (with_reducible refine Kd.C_alloc ?_ _) | (with_reducible refine Kd.C_drewN ?_ _) | (with_reducible refine Kd.C_drew ?_)))
       (case side2 => exact (Kd.R_reads' HO1285.out).2.1)
       rintro e w46 ⟨rfl, hb⟩
       refine ⟨_, rfl, ?_⟩
       have n0_ := Aside0.mk (Kd.R_below (by (with_reducible repeat (first | apply Kd.R_alloc | apply Kd.R_drewN | apply Kd.R_drew)); exact HO1285.out) hb)
       have n1_ := Aside0.mk (blk_below (g := gb1290) (o := .cells #[.int .i64 t1287, .int .i64 t1288] 39 (0, 0)) (by (with_reducible repeat (first | refine blk_drewN ?_ _ | refine blk_drew ?_ | refine blk_alloc ?_ _)); exact BK1290.out) hb)
       have n2_ := Aside0.mk (blk_below (g := gb1294) (o := .cells #[.int .i64 t1291, .int .i64 t1292] 39 (0, 0)) (by (with_reducible repeat (first | refine blk_drewN ?_ _ | refine blk_drew ?_ | refine blk_alloc ?_ _)); exact BK1294.out) hb)
       have n3_ := Aside0.mk (below_step (by repeat (first | (with_reducible first | exact HB.out | apply below_alloc | apply pw_below_drewN | apply below_drew1 | refine below_set ?_ GE1290.out | refine below_set ?_ GE1294.out) | exact HB.out)) hb)
       clear HO1285
       clear BK1290
       clear BK1294
       clear HB
       have HO1285 := n0_
       have BK1290 := n1_
       have BK1294 := n2_
       have HB := n3_
       clear n0_ n1_ n2_ n3_
       (try clear hb)
       (try clear hb2)
       (try clear hk)
       (try clear hi)
       refine hK.out _ _ ⟨(blk_cell BK1290.out 0).trans rfl, (blk_cell BK1290.out 1).trans rfl, (blk_cell BK1294.out 0).trans rfl, (blk_cell BK1294.out 1).trans rfl⟩ (fun hHeld => ?_)
       clear hK K
       refine norm_ (a' := ?_) ?_ ?_
       rotate_left
       ·
        show Act.put _ (some 61) _ = _
        simp only [Act.put, List.setIfInBounds_toArray, List.set_cons_zero, List.set_cons_succ, i64_w, i32_w]
        rfl
       refine pure_ (i := 25) (N := some 62) (v := ?_) (a' := ?_) #[true, true, true, true, true, true, true, true, true, true, true, true, true, true, true, true, true, true, true, true, true, true, true, true, true, true, false, false, false, false, false, false, false, false, false, false, false, false, false, false] rfl rfl (any_of HT_.out (by kernel_rfl)) (fun _ _ _ h => h) (Or.inl ⟨by rfl, ?_⟩) ?_ ?_
       rotate_left
       ·
        intro w'
        go_simp
        with_reducible rfl
       rotate_left
       ·
        simp only [Act.put, List.setIfInBounds_toArray, List.set_cons_zero, List.set_cons_succ, i64_w, i32_w]
        rfl
       refine pure_ (i := 26) (N := some 63) (v := ?_) (a' := ?_) #[true, true, true, true, true, true, true, true, true, true, true, true, true, true, true, true, true, true, true, true, true, true, true, true, true, true, true, false, false, false, false, false, false, false, false, false, false, false, false, false] rfl rfl (any_of HT_.out (by kernel_rfl)) (fun _ _ _ h => h) (Or.inl ⟨by rfl, ?_⟩) ?_ ?_
       rotate_left
       ·
        intro w'
        go_simp
        with_reducible rfl
       rotate_left
       ·
        simp only [Act.put, List.setIfInBounds_toArray, List.set_cons_zero, List.set_cons_succ, i64_w, i32_w]
        rfl
       refine pure_ (i := 27) (N := some 64) (v := ?_) (a' := ?_) #[true, true, true, true, true, true, true, true, true, true, true, true, true, true, true, true, true, true, true, true, true, true, true, true, true, true, true, true, false, false, false, false, false, false, false, false, false, false, false, false] rfl rfl (any_of HT_.out (by kernel_rfl)) (fun _ _ _ h => h) (Or.inl ⟨by rfl, ?_⟩) ?_ ?_
       rotate_left
       ·
        intro w'
        go_simp
        with_reducible rfl
       rotate_left
       ·
        simp only [Act.put, List.setIfInBounds_toArray, List.set_cons_zero, List.set_cons_succ, i64_w, i32_w]
        rfl
       refine pure_ (i := 28) (N := some 65) (v := ?_) (a' := ?_) #[true, true, true, true, true, true, true, true, true, true, true, true, true, true, true, true, true, true, true, true, true, true, true, true, true, true, true, true, true, false, false, false, false, false, false, false, false, false, false, false] rfl rfl (any_of HT_.out (by kernel_rfl)) (fun _ _ _ h => h) (Or.inl ⟨by rfl, ?_⟩) ?_ ?_
       rotate_left
       ·
        intro w'
        go_simp
        with_reducible rfl
       rotate_left
       ·
        simp only [Act.put, List.setIfInBounds_toArray, List.set_cons_zero, List.set_cons_succ, i64_w, i32_w]
        rfl
       refine pure_ (i := 29) (N := some 66) (v := ?_) (a' := ?_) #[true, true, true, true, true, true, true, true, true, true, true, true, true, true, true, true, true, true, true, true, true, true, true, true, true, true, true, true, true, true, false, false, false, false, false, false, false, false, false, false] rfl rfl (any_of HT_.out (by kernel_rfl)) (fun _ _ _ h => h) (Or.inl ⟨by rfl, ?_⟩) ?_ ?_
       rotate_left
       ·
        intro w'
        go_simp
        with_reducible rfl
       rotate_left
       ·
        simp only [Act.put, List.setIfInBounds_toArray, List.set_cons_zero, List.set_cons_succ, i64_w, i32_w]
        rfl
       refine pure_ (i := 31) (N := some 68) (v := ?_) (a' := ?_) #[true, true, true, true, true, true, true, true, true, true, true, true, true, true, true, true, true, true, true, true, true, true, true, true, true, true, true, true, true, true, false, true, false, false, false, false, false, false, false, false] rfl rfl (any_of HT_.out (by kernel_rfl)) (fun _ _ _ h => h) (Or.inl ⟨by rfl, ?_⟩) ?_ ?_
       rotate_left
       ·
        intro w'
        go_simp
        with_reducible rfl
       rotate_left
       ·
        simp only [Act.put, List.setIfInBounds_toArray, List.set_cons_zero, List.set_cons_succ, i64_w, i32_w]
        rfl
       refine pure_ (i := 33) (N := some 70) (v := ?_) (a' := ?_) #[true, true, true, true, true, true, true, true, true, true, true, true, true, true, true, true, true, true, true, true, true, true, true, true, true, true, true, true, true, true, false, true, false, true, false, false, false, false, false, false] rfl rfl (any_of HT_.out (by kernel_rfl)) (fun _ _ _ h => h) (Or.inl ⟨by rfl, ?_⟩) ?_ ?_
       rotate_left
       ·
        intro w'
        go_simp
        with_reducible rfl
       rotate_left
       ·
        simp only [Act.put, List.setIfInBounds_toArray, List.set_cons_zero, List.set_cons_succ, i64_w, i32_w]
        rfl
       refine pure_ (i := 34) (N := some 71) (v := ?_) (a' := ?_) #[true, true, true, true, true, true, true, true, true, true, true, true, true, true, true, true, true, true, true, true, true, true, true, true, true, true, true, true, true, true, false, true, false, true, true, false, false, false, false, false] rfl rfl (any_of HT_.out (by kernel_rfl)) (fun _ _ _ h => h) (Or.inl ⟨by rfl, ?_⟩) ?_ ?_
       rotate_left
       ·
        intro w'
        go_simp
        with_reducible rfl
       rotate_left
       ·
        simp only [Act.put, List.setIfInBounds_toArray, List.set_cons_zero, List.set_cons_succ, i64_w, i32_w]
        rfl
       refine pure_ (i := 36) (N := some 73) (v := ?_) (a' := ?_) #[true, true, true, true, true, true, true, true, true, true, true, true, true, true, true, true, true, true, true, true, true, true, true, true, true, true, true, true, true, true, false, true, false, true, true, false, true, false, false, false] rfl rfl (any_of HT_.out (by kernel_rfl)) (fun _ _ _ h => h) (Or.inl ⟨by rfl, ?_⟩) ?_ ?_
       rotate_left
       ·
        intro w'
        go_simp
        with_reducible rfl
       rotate_left
       ·
        simp only [Act.put, List.setIfInBounds_toArray, List.set_cons_zero, List.set_cons_succ, i64_w, i32_w]
        rfl
       refine take_ (i := 30) (N := some 67) (v := ?_) (a' := ?_) #[true, true, true, true, true, true, true, true, true, true, true, true, true, true, true, true, true, true, true, true, true, true, true, true, true, true, true, true, true, true, true, true, false, true, true, false, true, false, false, false] rfl rfl (take_ofW HT_.out HW_.out (by kernel_rfl)) (fun _ _ _ h => h) (Or.inl ⟨by rfl, ?_⟩) hHeld ?_ ?_
       rotate_left
       ·
        rintro w' ⟨s0, s1, s2, s3⟩
        go_simp
        with_reducible rfl
       rotate_left
       ·
        simp only [Act.put, List.setIfInBounds_toArray, List.set_cons_zero, List.set_cons_succ, i64_w, i32_w]
        rfl
       refine take_ (i := 35) (N := some 72) (v := ?_) (a' := ?_) #[true, true, true, true, true, true, true, true, true, true, true, true, true, true, true, true, true, true, true, true, true, true, true, true, true, true, true, true, true, true, true, true, false, true, true, true, true, false, false, false] rfl rfl (take_ofW HT_.out HW_.out (by kernel_rfl)) (fun _ _ _ h => h) (Or.inl ⟨by rfl, ?_⟩) hHeld ?_ ?_
       rotate_left
       ·
        rintro w' ⟨s0, s1, s2, s3⟩
        go_simp
        with_reducible rfl
       rotate_left
       ·
        simp only [Act.put, List.setIfInBounds_toArray, List.set_cons_zero, List.set_cons_succ, i64_w, i32_w]
        rfl
       refine one_ (i := 32) (N := some 69) #[true, true, true, true, true, true, true, true, true, true, true, true, true, true, true, true, true, true, true, true, true, true, true, true, true, true, true, true, true, true, true, true, true, true, true, true, true, false, false, false] rfl rfl (one_of HT_.out (by kernel_rfl)) (by decide) (fun K hK => ?_)
       refine goes_ Try.func30 (by kernel_rfl) rfl #[.slice Ao10 t1281.length co10, .int .i64 t1287, .int .i64 t1283] (by rfl) rfl rfl (by (try simp only [List.map_toArray, List.map_cons, List.map_nil]); first | done | rfl | (simp only [List.length_drop, List.length_take]; rfl)) ?_
       with_reducible refine (impl_Aboard.calls k _ _ t1281 t1287 t1283 t1298 _ ?side1 ?side2 A40.out).mono ?_
       (case side1 => repeat (first | exact (Kd.R_reads' HO1285.out).2.2 | (with_reducible refine Kd.C_alloc ?_ _) | (with_reducible refine Kd.C_drewN ?_ _) | (with_reducible refine Kd.C_drew ?_)))
       (case side2 => exact (Kd.R_reads' HO1285.out).2.1)
       rintro e w47 ⟨rfl, hb⟩
       refine ⟨_, rfl, ?_⟩
       have n0_ := Aside0.mk (Kd.R_below (by (with_reducible repeat (first | apply Kd.R_alloc | apply Kd.R_drewN | apply Kd.R_drew)); exact HO1285.out) hb)
       have n1_ := Aside0.mk (blk_below (g := gb1290) (o := .cells #[.int .i64 t1287, .int .i64 t1288] 39 (0, 0)) (by (with_reducible repeat (first | refine blk_drewN ?_ _ | refine blk_drew ?_ | refine blk_alloc ?_ _)); exact BK1290.out) hb)
       have n2_ := Aside0.mk (blk_below (g := gb1294) (o := .cells #[.int .i64 t1291, .int .i64 t1292] 39 (0, 0)) (by (with_reducible repeat (first | refine blk_drewN ?_ _ | refine blk_drew ?_ | refine blk_alloc ?_ _)); exact BK1294.out) hb)
       have n3_ := Aside0.mk (below_step (by repeat (first | (with_reducible first | exact HB.out | apply below_alloc | apply pw_below_drewN | apply below_drew1 | refine below_set ?_ GE1290.out | refine below_set ?_ GE1294.out) | exact HB.out)) hb)
       clear HO1285
       clear BK1290
       clear BK1294
       clear HB
       have HO1285 := n0_
       have BK1290 := n1_
       have BK1294 := n2_
       have HB := n3_
       clear n0_ n1_ n2_ n3_
       (try clear hb)
       (try clear hb2)
       (try clear hk)
       (try clear hi)
       refine hK.out _ _ ⟨(blk_cell BK1290.out 0).trans rfl, (blk_cell BK1290.out 1).trans rfl, (blk_cell BK1294.out 0).trans rfl, (blk_cell BK1294.out 1).trans rfl⟩ (fun hHeld => ?_)
       clear hK K
       refine norm_ (a' := ?_) ?_ ?_
       rotate_left
       ·
        show Act.put _ (some 69) _ = _
        simp only [Act.put, List.setIfInBounds_toArray, List.set_cons_zero, List.set_cons_succ, i64_w, i32_w]
        rfl
       refine one_ (i := 37) (N := some 74) #[true, true, true, true, true, true, true, true, true, true, true, true, true, true, true, true, true, true, true, true, true, true, true, true, true, true, true, true, true, true, true, true, true, true, true, true, true, true, false, false] rfl rfl (one_of HT_.out (by kernel_rfl)) (by decide) (fun K hK => ?_)
       refine goes_ Try.func29 (by kernel_rfl) rfl #[.slice Ao10 t1281.length co10, .int .i64 t1287, .int .i64 t1283] (by rfl) rfl rfl (by (try simp only [List.map_toArray, List.map_cons, List.map_nil]); first | done | rfl | (simp only [List.length_drop, List.length_take]; rfl)) ?_
       with_reducible refine (spec_Aboard.calls k _ _ t1281 t1287 t1283 t1299 _ ?side1 ?side2 A41.out).mono ?_
       (case side1 => repeat (first | exact (Kd.R_reads' HO1285.out).2.2 | (with_reducible refine Kd.C_alloc ?_ _) | (with_reducible refine Kd.C_drewN ?_ _) | (with_reducible refine Kd.C_drew ?_)))
       (case side2 => exact (Kd.R_reads' HO1285.out).2.1)
       rintro e w48 ⟨rfl, hb⟩
       refine ⟨_, rfl, ?_⟩
       have n0_ := Aside0.mk (Kd.R_below (by (with_reducible repeat (first | apply Kd.R_alloc | apply Kd.R_drewN | apply Kd.R_drew)); exact HO1285.out) hb)
       have n1_ := Aside0.mk (blk_below (g := gb1290) (o := .cells #[.int .i64 t1287, .int .i64 t1288] 39 (0, 0)) (by (with_reducible repeat (first | refine blk_drewN ?_ _ | refine blk_drew ?_ | refine blk_alloc ?_ _)); exact BK1290.out) hb)
       have n2_ := Aside0.mk (blk_below (g := gb1294) (o := .cells #[.int .i64 t1291, .int .i64 t1292] 39 (0, 0)) (by (with_reducible repeat (first | refine blk_drewN ?_ _ | refine blk_drew ?_ | refine blk_alloc ?_ _)); exact BK1294.out) hb)
       have n3_ := Aside0.mk (below_step (by repeat (first | (with_reducible first | exact HB.out | apply below_alloc | apply pw_below_drewN | apply below_drew1 | refine below_set ?_ GE1290.out | refine below_set ?_ GE1294.out) | exact HB.out)) hb)
       clear HO1285
       clear BK1290
       clear BK1294
       clear HB
       have HO1285 := n0_
       have BK1290 := n1_
       have BK1294 := n2_
       have HB := n3_
       clear n0_ n1_ n2_ n3_
       (try clear hb)
       (try clear hb2)
       (try clear hk)
       (try clear hi)
       refine hK.out _ _ ⟨(blk_cell BK1290.out 0).trans rfl, (blk_cell BK1290.out 1).trans rfl, (blk_cell BK1294.out 0).trans rfl, (blk_cell BK1294.out 1).trans rfl⟩ (fun hHeld => ?_)
       clear hK K
       refine norm_ (a' := ?_) ?_ ?_
       rotate_left
       ·
        show Act.put _ (some 74) _ = _
        simp only [Act.put, List.setIfInBounds_toArray, List.set_cons_zero, List.set_cons_succ, i64_w, i32_w]
        rfl
       refine pure_ (i := 38) (N := some 75) (v := ?_) (a' := ?_) #[true, true, true, true, true, true, true, true, true, true, true, true, true, true, true, true, true, true, true, true, true, true, true, true, true, true, true, true, true, true, true, true, true, true, true, true, true, true, true, false] rfl rfl (any_of HT_.out (by kernel_rfl)) (fun _ _ _ h => h) (Or.inl ⟨by rfl, ?_⟩) ?_ ?_
       rotate_left
       ·
        intro w'
        go_simp
        with_reducible rfl
       rotate_left
       ·
        simp only [Act.put, List.setIfInBounds_toArray, List.set_cons_zero, List.set_cons_succ, i64_w, i32_w]
        rfl
       refine pure_ (i := 39) (N := some 76) (v := ?_) (a' := ?_) #[true, true, true, true, true, true, true, true, true, true, true, true, true, true, true, true, true, true, true, true, true, true, true, true, true, true, true, true, true, true, true, true, true, true, true, true, true, true, true, true] rfl rfl (any_of HT_.out (by kernel_rfl)) (fun _ _ _ h => h) (Or.inl ⟨by rfl, ?_⟩) ?_ ?_
       rotate_left
       ·
        intro w'
        go_simp
        with_reducible rfl
       rotate_left
       ·
        simp only [Act.put, List.setIfInBounds_toArray, List.set_cons_zero, List.set_cons_succ, i64_w, i32_w]
        rfl
       refine done_ (done_of HT_.out (by kernel_rfl)) ?_
       try go_wp2
       go_meet
       case rel => exact ⟨_, ((t1298 != t1299)), (by first | rfl | (simp; done) | (simp [*]; done)), H', ⟨by first | omega | exact Nat.le_refl _⟩, ⟨by (with_reducible repeat (first | apply Kd.R_alloc | apply Kd.R_drewN | apply Kd.R_drew)); exact HO1285.out⟩, ⟨by (with_reducible repeat (first | refine blk_drewN ?_ _ | refine blk_drew ?_ | refine blk_alloc ?_ _)); exact BK1290.out⟩, ⟨by (with_reducible repeat (first | refine blk_drewN ?_ _ | refine blk_drew ?_ | refine blk_alloc ?_ _)); exact BK1294.out⟩, ⟨by repeat (first | (with_reducible first | exact HB.out | apply below_alloc | apply pw_below_drewN | apply below_drew1 | refine below_set ?_ GE1290.out | refine below_set ?_ GE1294.out) | exact HB.out)⟩⟩
  case rest =>
   clear HC8
   try clear c2
   try clear p2
   try clear c3
   try clear c29
   try clear c30
   try clear c31
   try clear c32
   try clear c34
   try clear c34b0
   try clear c34b1
   try clear c34b2
   try clear c36
   obtain ⟨kq, x76_7, rfl, HA, HJ7, HO_3, BK1290, BK1294, HB⟩ := hcut
   cases kq with
   | zero => exact absurd HA.out (by simp [laws_FnMayFly.j0])
   | succ kj7 =>
    have H := HA.out
    clear HA
    simp only [laws_FnMayFly.j0] at H
    by_cases c49 : x76_7 = true
    ·
     subst c49
     have H1 : (some false) = some r := by rw [if_pos rfl] at H; exact H
     clear H
     have H := H1
     clear H1
     obtain rfl := Option.some.inj H
     go_wp2
     go_ret
     exact ⟨by first | rfl | (simp [errW_none, errW_some] <;> rfl) | (simp [*, errW_none, errW_some] <;> rfl), by repeat (first | (with_reducible first | exact HB.out | apply below_alloc | apply pw_below_drewN | apply below_drew1 | refine below_set ?_ GE1290.out | refine below_set ?_ GE1294.out) | exact HB.out)⟩
    ·
     replace c49 := Bool.eq_false_iff.mpr c49
     subst c49
     have H1 : ((impl_HeldUp.f kj7 t1281 t1283).bind fun t1300 => ((impl_OffList.f kj7 t1281 t1283 (([t1282, wrap64 (t1282 + 1), t1282] : List Int))).bind fun t1306 => ((spec_HeldUp.f kj7 t1281 t1283).bind fun t1309 => ((laws_sameInts.f kj7 t1300 t1309).bind fun t1312 => (if t1312 = true then ((spec_OffList.f kj7 t1281 t1283 (([t1282, wrap64 (t1282 + 1), t1282] : List Int))).bind fun t1316 => ((laws_sameInts.f kj7 t1306 t1316).bind fun t1319 => (laws_FnMayFly.j1 kj7 t1281 t1282 t1283 t1286 t1289 t1300 t1306 (!t1319) t1287 t1288))) else (laws_FnMayFly.j1 kj7 t1281 t1282 t1283 t1286 t1289 t1300 t1306 true t1287 t1288)))))) = some r := by rw [if_neg (show ¬ (false = true) by decide)] at H; exact H
     clear H
     have H := H1
     clear H1
     replace H := Option.bind_eq_some_iff.mp H
     obtain ⟨t1300, A500, H⟩ := H
     replace H : ((impl_OffList.f kj7 t1281 t1283 (([t1282, wrap64 (t1282 + 1), t1282] : List Int))).bind fun t1306 => ((spec_HeldUp.f kj7 t1281 t1283).bind fun t1309 => ((laws_sameInts.f kj7 t1300 t1309).bind fun t1312 => (if t1312 = true then ((spec_OffList.f kj7 t1281 t1283 (([t1282, wrap64 (t1282 + 1), t1282] : List Int))).bind fun t1316 => ((laws_sameInts.f kj7 t1306 t1316).bind fun t1319 => (laws_FnMayFly.j1 kj7 t1281 t1282 t1283 t1286 t1289 t1300 t1306 (!t1319) t1287 t1288))) else (laws_FnMayFly.j1 kj7 t1281 t1282 t1283 t1286 t1289 t1300 t1306 true t1287 t1288))))) = some r := H
     have A50 := Aside0.mk A500
     clear A500
     obtain ⟨y1303, hy1303⟩ : ∃ y_ : List Int, y_ = (([t1282, wrap64 (t1282 + 1), t1282] : List Int)) := ⟨_, rfl⟩
     replace H : ((impl_OffList.f kj7 t1281 t1283 y1303).bind fun t1306 => ((spec_HeldUp.f kj7 t1281 t1283).bind fun t1309 => ((laws_sameInts.f kj7 t1300 t1309).bind fun t1312 => (if t1312 = true then ((spec_OffList.f kj7 t1281 t1283 (([t1282, wrap64 (t1282 + 1), t1282] : List Int))).bind fun t1316 => ((laws_sameInts.f kj7 t1306 t1316).bind fun t1319 => (laws_FnMayFly.j1 kj7 t1281 t1282 t1283 t1286 t1289 t1300 t1306 (!t1319) t1287 t1288))) else (laws_FnMayFly.j1 kj7 t1281 t1282 t1283 t1286 t1289 t1300 t1306 true t1287 t1288))))) = some r := by first | (rw [hy1303]; with_reducible exact H) | (have H2_ := (Option.bind_some _ _).symm.trans H; rw [hy1303]; with_reducible exact H2_) | (have H2_ := (Option.bind_some _ _).symm.trans H; with_reducible exact H2_) | with_reducible exact H | (rw [hy1303]; exact H) | exact H
     have Ny1303 := Aside0.mk hy1303
     clear hy1303
     replace H := Option.bind_eq_some_iff.mp H
     obtain ⟨t1306, A510, H⟩ := H
     replace H : ((spec_HeldUp.f kj7 t1281 t1283).bind fun t1309 => ((laws_sameInts.f kj7 t1300 t1309).bind fun t1312 => (if t1312 = true then ((spec_OffList.f kj7 t1281 t1283 (([t1282, wrap64 (t1282 + 1), t1282] : List Int))).bind fun t1316 => ((laws_sameInts.f kj7 t1306 t1316).bind fun t1319 => (laws_FnMayFly.j1 kj7 t1281 t1282 t1283 t1286 t1289 t1300 t1306 (!t1319) t1287 t1288))) else (laws_FnMayFly.j1 kj7 t1281 t1282 t1283 t1286 t1289 t1300 t1306 true t1287 t1288)))) = some r := H
     have A51 := Aside0.mk A510
     clear A510
     have HC52 := Aside0.mk H
     clear H
     go_upto_region 11 with (first | ((with_reducible refine gate_callee (f := 54) rfl ?_); refine goesL_ (some 79) rfl rfl Try.func54 (by kernel_rfl) rfl #[.slice Ao10 t1281.length co10, .int .i64 t1283] rfl (by (try simp only [List.map_toArray, List.map_cons, List.map_nil]); first | done | rfl | (simp only [List.length_drop, List.length_take]; rfl)) ?_; (with_reducible refine (impl_HeldUp.calls kj7 _ _ t1281 t1283 t1300 _ ?side1 ?side2 A50.out).mono ?_); (case side1 => repeat (first | exact (Kd.R_reads' HO_3.out).2.2 | (with_reducible refine Kd.C_alloc ?_ _) | (with_reducible refine Kd.C_drewN ?_ _) | (with_reducible refine Kd.C_drew ?_))); (case side2 => exact (Kd.R_reads' HO_3.out).2.1); rintro e w53 ⟨v1301, rfl, ho0, hb⟩; refine ⟨_, rfl, ?_⟩; have n0_ := Aside0.mk (Kd.R_below (by (with_reducible repeat (first | apply Kd.R_alloc | apply Kd.R_drewN | apply Kd.R_drew)); exact HO_3.out) hb); have n1_ := Aside0.mk (Kd.R_lower ho0 (below_size (by repeat (first | (with_reducible first | exact HB.out | apply below_alloc | apply pw_below_drewN | apply below_drew1 | refine below_set ?_ GE1290.out | refine below_set ?_ GE1294.out) | exact HB.out)))); have n2_ := Aside0.mk (blk_below (g := gb1290) (o := .cells #[.int .i64 t1287, .int .i64 t1288] 39 (0, 0)) (by (with_reducible repeat (first | refine blk_drewN ?_ _ | refine blk_drew ?_ | refine blk_alloc ?_ _)); exact BK1290.out) hb); have n3_ := Aside0.mk (blk_below (g := gb1294) (o := .cells #[.int .i64 t1291, .int .i64 t1292] 39 (0, 0)) (by (with_reducible repeat (first | refine blk_drewN ?_ _ | refine blk_drew ?_ | refine blk_alloc ?_ _)); exact BK1294.out) hb); have n4_ := Aside0.mk (below_step (by repeat (first | (with_reducible first | exact HB.out | apply below_alloc | apply pw_below_drewN | apply below_drew1 | refine below_set ?_ GE1290.out | refine below_set ?_ GE1294.out) | exact HB.out)) hb); clear HO_3; clear BK1290; clear BK1294; clear HB; have HO_3 := n0_; have HO1302 := n1_; have BK1290 := n2_; have BK1294 := n3_; have HB := n4_; clear n0_ n1_ n2_ n3_ n4_; (try clear hb); (try clear hb2); (try clear hk); (try clear hi); (try clear ho0)) | ((with_reducible refine gate_dst (N := 86) rfl ?_); (try (refine gate_guard (by rfl) ?_; dsimp only)); refine Kd.R_lit (Kd.int .i64) _ 3 ?hg (N := 86) ?hd (xs := ([t1282, wrap64 (t1282 + 1), t1282] : List Int)) (inner := [.int .i64 t1282, .int .i64 (wrap64 (t1282 + 1)), .int .i64 t1282]) (ok := fun _ => True) (okp := fun _ => True) ?hr ?hp (fun _ hk => hk) trivial (Below.refl _ _) (Nat.le_refl _) (by simp) ?_; (case hd => rfl); (case hg => rfl); (case hr => first | (go_simp; done) | (go_simp; rfl)); (case hp => exact (Reps.one (show Kd.M (Kd.int .i64) _ _ _ t1282 [.int .i64 t1282] from rfl) (Reps.one (show Kd.M (Kd.int .i64) _ _ _ (wrap64 (t1282 + 1)) [.int .i64 (wrap64 (t1282 + 1))] from rfl) (Reps.one (show Kd.M (Kd.int .i64) _ _ _ t1282 [.int .i64 t1282] from rfl) (Reps.none _ _))))); intro v1304 w54 ho55 hb hg_ hnew_; clear hg_ hnew_; (first | rw [← Ny1303.out] at ho55 | (simp only [Int.reduceToNat] at ho55; rw [← Ny1303.out] at ho55)); have n0_ := Aside0.mk (Kd.R_below (by (with_reducible repeat (first | apply Kd.R_alloc | apply Kd.R_drewN | apply Kd.R_drew)); exact HO_3.out) hb); have n1_ := Aside0.mk (Kd.R_elder' (by (with_reducible repeat (first | apply Kd.R_alloc | apply Kd.R_drewN | apply Kd.R_drew)); exact HO1302.out) (Kd.R_base ho55) hb); have n2_ := Aside0.mk (Kd.R_lower (Kd.R_new' ho55 (Kd.R_lt (by (with_reducible repeat (first | apply Kd.R_alloc | apply Kd.R_drewN | apply Kd.R_drew)); exact HO1302.out))) (below_size (by repeat (first | (with_reducible first | exact HB.out | apply below_alloc | apply pw_below_drewN | apply below_drew1 | refine below_set ?_ GE1290.out | refine below_set ?_ GE1294.out) | exact HB.out)))); have n3_ := Aside0.mk (blk_below (g := gb1290) (o := .cells #[.int .i64 t1287, .int .i64 t1288] 39 (0, 0)) (by (with_reducible repeat (first | refine blk_drewN ?_ _ | refine blk_drew ?_ | refine blk_alloc ?_ _)); exact BK1290.out) hb); have n4_ := Aside0.mk (blk_below (g := gb1294) (o := .cells #[.int .i64 t1291, .int .i64 t1292] 39 (0, 0)) (by (with_reducible repeat (first | refine blk_drewN ?_ _ | refine blk_drew ?_ | refine blk_alloc ?_ _)); exact BK1294.out) hb); have n5_ := Aside0.mk (below_step (by repeat (first | (with_reducible first | exact HB.out | apply below_alloc | apply pw_below_drewN | apply below_drew1 | refine below_set ?_ GE1290.out | refine below_set ?_ GE1294.out) | exact HB.out)) hb); clear HO_3; clear HO1302; clear BK1290; clear BK1294; clear HB; have HO_3 := n0_; have HO1302 := n1_; have HO1305 := n2_; have BK1290 := n3_; have BK1294 := n4_; have HB := n5_; clear n0_ n1_ n2_ n3_ n4_ n5_; clear hb ho55; obtain ⟨Ao56, co56, eo56⟩ := Kd.R_slice HO1305.out; subst eo56) | ((with_reducible refine gate_callee (f := 44) rfl ?_); refine goesL_ (some 87) rfl rfl Try.func44 (by kernel_rfl) rfl #[.slice Ao10 t1281.length co10, .int .i64 t1283, .slice Ao56 y1303.length co56] rfl (by (try simp only [List.map_toArray, List.map_cons, List.map_nil]); first | done | rfl | (simp only [List.length_drop, List.length_take]; rfl)) ?_; (with_reducible refine (impl_OffList.calls kj7 _ _ t1281 t1283 _ _ y1303 t1306 _ ?side1 ?side2 ?side3 ?side4 A51.out).mono ?_); (case side1 => repeat (first | exact (Kd.R_reads' HO_3.out).2.2 | (with_reducible refine Kd.C_alloc ?_ _) | (with_reducible refine Kd.C_drewN ?_ _) | (with_reducible refine Kd.C_drew ?_))); (case side2 => exact (Kd.R_reads' HO_3.out).2.1); (case side3 => repeat (first | exact (Kd.R_reads' HO1305.out).2.2 | (with_reducible refine Kd.C_alloc ?_ _) | (with_reducible refine Kd.C_drewN ?_ _) | (with_reducible refine Kd.C_drew ?_))); (case side4 => exact (Kd.R_reads' HO1305.out).2.1); rintro e w57 ⟨v1307, rfl, ho0, hb⟩; refine ⟨_, rfl, ?_⟩; have n0_ := Aside0.mk (Kd.R_below (by (with_reducible repeat (first | apply Kd.R_alloc | apply Kd.R_drewN | apply Kd.R_drew)); exact HO_3.out) hb); have n1_ := Aside0.mk (Kd.R_elder' (by (with_reducible repeat (first | apply Kd.R_alloc | apply Kd.R_drewN | apply Kd.R_drew)); exact HO1302.out) (Kd.R_base ho0) hb); have n2_ := Aside0.mk (Kd.R_elder' (by (with_reducible repeat (first | apply Kd.R_alloc | apply Kd.R_drewN | apply Kd.R_drew)); exact HO1305.out) (Kd.R_base ho0) hb); have n3_ := Aside0.mk (Kd.R_lower (Kd.R_new' (Kd.R_new' ho0 (Kd.R_lt (by (with_reducible repeat (first | apply Kd.R_alloc | apply Kd.R_drewN | apply Kd.R_drew)); exact HO1302.out))) (Kd.R_lt (by (with_reducible repeat (first | apply Kd.R_alloc | apply Kd.R_drewN | apply Kd.R_drew)); exact HO1305.out))) (below_size (by repeat (first | (with_reducible first | exact HB.out | apply below_alloc | apply pw_below_drewN | apply below_drew1 | refine below_set ?_ GE1290.out | refine below_set ?_ GE1294.out) | exact HB.out)))); have n4_ := Aside0.mk (blk_below (g := gb1290) (o := .cells #[.int .i64 t1287, .int .i64 t1288] 39 (0, 0)) (by (with_reducible repeat (first | refine blk_drewN ?_ _ | refine blk_drew ?_ | refine blk_alloc ?_ _)); exact BK1290.out) hb); have n5_ := Aside0.mk (blk_below (g := gb1294) (o := .cells #[.int .i64 t1291, .int .i64 t1292] 39 (0, 0)) (by (with_reducible repeat (first | refine blk_drewN ?_ _ | refine blk_drew ?_ | refine blk_alloc ?_ _)); exact BK1294.out) hb); have n6_ := Aside0.mk (below_step (by repeat (first | (with_reducible first | exact HB.out | apply below_alloc | apply pw_below_drewN | apply below_drew1 | refine below_set ?_ GE1290.out | refine below_set ?_ GE1294.out) | exact HB.out)) hb); clear HO_3; clear HO1302; clear HO1305; clear BK1290; clear BK1294; clear HB; have HO_3 := n0_; have HO1302 := n1_; have HO1305 := n2_; have HO1308 := n3_; have BK1290 := n4_; have BK1294 := n5_; have HB := n6_; clear n0_ n1_ n2_ n3_ n4_ n5_ n6_; (try clear hb); (try clear hb2); (try clear hk); (try clear hi); (try clear ho0)))
     (try simp only [Act.put, List.setIfInBounds_toArray, List.set_cons_zero, List.set_cons_succ])
     go_cut [106] (fun v106 wc => ∃ (kq : Nat) (x106_51 : Bool), v106 = .bool x106_51 ∧ Aside0 (laws_FnMayFly.j1 kq t1281 t1282 t1283 t1286 t1289 t1300 t1306 x106_51 t1287 t1288 = some r) ∧ Aside0 (kq ≤ kj7) ∧ Aside0 (Kd.R k25 25 wc w.heap.size (fun _ => True) (.slice Ao10 t1281.length co10) t1281) ∧ Aside0 (Kd.R (Kd.int .i64) 3 wc w.heap.size (fun k_ => some k_ ≠ (v1307 : Value).ownBlock) v1301 t1300) ∧ Aside0 (Kd.R (Kd.int .i64) 3 wc w.heap.size (fun k_ => some k_ ≠ (v1301 : Value).ownBlock) v1307 t1306) ∧ Aside0 (wc.heap[gb1290]? = some (.cells #[.int .i64 t1287, .int .i64 t1288] 39 (0, 0))) ∧ Aside0 (wc.heap[gb1294]? = some (.cells #[.int .i64 t1291, .int .i64 t1292] 39 (0, 0))) ∧ Aside0 (Below w.heap.size w wc))
     case first =>
      have H := HC52.out
      clear HC52
      replace H := Option.bind_eq_some_iff.mp H
      obtain ⟨t1309, A580, H⟩ := H
      replace H : ((laws_sameInts.f kj7 t1300 t1309).bind fun t1312 => (if t1312 = true then ((spec_OffList.f kj7 t1281 t1283 (([t1282, wrap64 (t1282 + 1), t1282] : List Int))).bind fun t1316 => ((laws_sameInts.f kj7 t1306 t1316).bind fun t1319 => (laws_FnMayFly.j1 kj7 t1281 t1282 t1283 t1286 t1289 t1300 t1306 (!t1319) t1287 t1288))) else (laws_FnMayFly.j1 kj7 t1281 t1282 t1283 t1286 t1289 t1300 t1306 true t1287 t1288))) = some r := H
      have A58 := Aside0.mk A580
      clear A580
      replace H := Option.bind_eq_some_iff.mp H
      obtain ⟨t1312, A590, H⟩ := H
      replace H : (if t1312 = true then ((spec_OffList.f kj7 t1281 t1283 (([t1282, wrap64 (t1282 + 1), t1282] : List Int))).bind fun t1316 => ((laws_sameInts.f kj7 t1306 t1316).bind fun t1319 => (laws_FnMayFly.j1 kj7 t1281 t1282 t1283 t1286 t1289 t1300 t1306 (!t1319) t1287 t1288))) else (laws_FnMayFly.j1 kj7 t1281 t1282 t1283 t1286 t1289 t1300 t1306 true t1287 t1288)) = some r := H
      have A59 := Aside0.mk A590
      clear A590
      by_cases c60 : t1312 = true
      ·
       subst c60
       have H1 : ((spec_OffList.f kj7 t1281 t1283 (([t1282, wrap64 (t1282 + 1), t1282] : List Int))).bind fun t1316 => ((laws_sameInts.f kj7 t1306 t1316).bind fun t1319 => (laws_FnMayFly.j1 kj7 t1281 t1282 t1283 t1286 t1289 t1300 t1306 (!t1319) t1287 t1288))) = some r := by rw [if_pos rfl] at H; exact H
       clear H
       have H := H1
       clear H1
       obtain ⟨y1313, hy1313⟩ : ∃ y_ : List Int, y_ = (([t1282, wrap64 (t1282 + 1), t1282] : List Int)) := ⟨_, rfl⟩
       replace H : ((spec_OffList.f kj7 t1281 t1283 y1313).bind fun t1316 => ((laws_sameInts.f kj7 t1306 t1316).bind fun t1319 => (laws_FnMayFly.j1 kj7 t1281 t1282 t1283 t1286 t1289 t1300 t1306 (!t1319) t1287 t1288))) = some r := by first | (rw [hy1313]; with_reducible exact H) | (have H2_ := (Option.bind_some _ _).symm.trans H; rw [hy1313]; with_reducible exact H2_) | (have H2_ := (Option.bind_some _ _).symm.trans H; with_reducible exact H2_) | with_reducible exact H | (rw [hy1313]; exact H) | exact H
       have Ny1313 := Aside0.mk hy1313
       clear hy1313
       replace H := Option.bind_eq_some_iff.mp H
       obtain ⟨t1316, A610, H⟩ := H
       replace H : ((laws_sameInts.f kj7 t1306 t1316).bind fun t1319 => (laws_FnMayFly.j1 kj7 t1281 t1282 t1283 t1286 t1289 t1300 t1306 (!t1319) t1287 t1288)) = some r := H
       have A61 := Aside0.mk A610
       clear A610
       replace H := Option.bind_eq_some_iff.mp H
       obtain ⟨t1319, A620, H⟩ := H
       replace H : (laws_FnMayFly.j1 kj7 t1281 t1282 t1283 t1286 t1289 t1300 t1306 (!t1319) t1287 t1288) = some r := H
       have A62 := Aside0.mk A620
       clear A620
       have H' := Aside0.mk H
       clear H
       go_wp2_with (first | ((with_reducible refine gate_callee (f := 53) rfl ?_); refine goesL_ (some 91) rfl rfl Try.func53 (by kernel_rfl) rfl #[.slice Ao10 t1281.length co10, .int .i64 t1283] rfl (by (try simp only [List.map_toArray, List.map_cons, List.map_nil]); first | done | rfl | (simp only [List.length_drop, List.length_take]; rfl)) ?_; (with_reducible refine (spec_HeldUp.calls kj7 _ _ t1281 t1283 t1309 _ ?side1 ?side2 A58.out).mono ?_); (case side1 => repeat (first | exact (Kd.R_reads' HO_3.out).2.2 | (with_reducible refine Kd.C_alloc ?_ _) | (with_reducible refine Kd.C_drewN ?_ _) | (with_reducible refine Kd.C_drew ?_))); (case side2 => exact (Kd.R_reads' HO_3.out).2.1); rintro e w63 ⟨v1310, rfl, ho0, hb⟩; refine ⟨_, rfl, ?_⟩; have n0_ := Aside0.mk (Kd.R_below (by (with_reducible repeat (first | apply Kd.R_alloc | apply Kd.R_drewN | apply Kd.R_drew)); exact HO_3.out) hb); have n1_ := Aside0.mk (Kd.R_elder' (by (with_reducible repeat (first | apply Kd.R_alloc | apply Kd.R_drewN | apply Kd.R_drew)); exact HO1302.out) (Kd.R_base ho0) hb); have n2_ := Aside0.mk (Kd.R_elder' (by (with_reducible repeat (first | apply Kd.R_alloc | apply Kd.R_drewN | apply Kd.R_drew)); exact HO1305.out) (Kd.R_base ho0) hb); have n3_ := Aside0.mk (Kd.R_elder' (by (with_reducible repeat (first | apply Kd.R_alloc | apply Kd.R_drewN | apply Kd.R_drew)); exact HO1308.out) (Kd.R_base ho0) hb); have n4_ := Aside0.mk (Kd.R_lower (Kd.R_new' (Kd.R_new' (Kd.R_new' ho0 (Kd.R_lt (by (with_reducible repeat (first | apply Kd.R_alloc | apply Kd.R_drewN | apply Kd.R_drew)); exact HO1302.out))) (Kd.R_lt (by (with_reducible repeat (first | apply Kd.R_alloc | apply Kd.R_drewN | apply Kd.R_drew)); exact HO1305.out))) (Kd.R_lt (by (with_reducible repeat (first | apply Kd.R_alloc | apply Kd.R_drewN | apply Kd.R_drew)); exact HO1308.out))) (below_size (by repeat (first | (with_reducible first | exact HB.out | apply below_alloc | apply pw_below_drewN | apply below_drew1 | refine below_set ?_ GE1290.out | refine below_set ?_ GE1294.out) | exact HB.out)))); have n5_ := Aside0.mk (blk_below (g := gb1290) (o := .cells #[.int .i64 t1287, .int .i64 t1288] 39 (0, 0)) (by (with_reducible repeat (first | refine blk_drewN ?_ _ | refine blk_drew ?_ | refine blk_alloc ?_ _)); exact BK1290.out) hb); have n6_ := Aside0.mk (blk_below (g := gb1294) (o := .cells #[.int .i64 t1291, .int .i64 t1292] 39 (0, 0)) (by (with_reducible repeat (first | refine blk_drewN ?_ _ | refine blk_drew ?_ | refine blk_alloc ?_ _)); exact BK1294.out) hb); have n7_ := Aside0.mk (below_step (by repeat (first | (with_reducible first | exact HB.out | apply below_alloc | apply pw_below_drewN | apply below_drew1 | refine below_set ?_ GE1290.out | refine below_set ?_ GE1294.out) | exact HB.out)) hb); clear HO_3; clear HO1302; clear HO1305; clear HO1308; clear BK1290; clear BK1294; clear HB; have HO_3 := n0_; have HO1302 := n1_; have HO1305 := n2_; have HO1308 := n3_; have HO1311 := n4_; have BK1290 := n5_; have BK1294 := n6_; have HB := n7_; clear n0_ n1_ n2_ n3_ n4_ n5_ n6_ n7_; (try clear hb); (try clear hb2); (try clear hk); (try clear hi); (try clear ho0); obtain ⟨Ao64, co64, eo64⟩ := Kd.R_slice HO1302.out; subst eo64; obtain ⟨Ao65, co65, eo65⟩ := Kd.R_slice HO1311.out; subst eo65) | ((with_reducible refine gate_callee (f := 61) rfl ?_); refine goesL_ (some 92) rfl rfl Try.func61 (by kernel_rfl) rfl #[.slice Ao64 t1300.length co64, .slice Ao65 t1309.length co65] rfl (by (try simp only [List.map_toArray, List.map_cons, List.map_nil]); first | done | rfl | (simp only [List.length_drop, List.length_take]; rfl)) ?_; (with_reducible refine (laws_sameInts.calls kj7 _ _ t1300 _ _ t1309 true _ ?side1 ?side2 ?side3 ?side4 A59.out).mono ?_); (case side1 => repeat (first | exact (Kd.R_reads' HO1302.out).2.2 | (with_reducible refine Kd.C_alloc ?_ _) | (with_reducible refine Kd.C_drewN ?_ _) | (with_reducible refine Kd.C_drew ?_))); (case side2 => exact (Kd.R_reads' HO1302.out).2.1); (case side3 => repeat (first | exact (Kd.R_reads' HO1311.out).2.2 | (with_reducible refine Kd.C_alloc ?_ _) | (with_reducible refine Kd.C_drewN ?_ _) | (with_reducible refine Kd.C_drew ?_))); (case side4 => exact (Kd.R_reads' HO1311.out).2.1); rintro e w' ⟨rfl, ⟨nd, rfl⟩⟩; refine ⟨_, rfl, ?_⟩) | ((with_reducible refine gate_dst (N := 102) rfl ?_); (try (refine gate_guard (by rfl) ?_; dsimp only)); refine Kd.R_lit (Kd.int .i64) _ 3 ?hg (N := 102) ?hd (xs := ([t1282, wrap64 (t1282 + 1), t1282] : List Int)) (inner := [.int .i64 t1282, .int .i64 (wrap64 (t1282 + 1)), .int .i64 t1282]) (ok := fun _ => True) (okp := fun _ => True) ?hr ?hp (fun _ hk => hk) trivial (Below.refl _ _) (Nat.le_refl _) (by simp) ?_; (case hd => rfl); (case hg => rfl); (case hr => first | (go_simp; done) | (go_simp; rfl)); (case hp => exact (Reps.one (show Kd.M (Kd.int .i64) _ _ _ t1282 [.int .i64 t1282] from rfl) (Reps.one (show Kd.M (Kd.int .i64) _ _ _ (wrap64 (t1282 + 1)) [.int .i64 (wrap64 (t1282 + 1))] from rfl) (Reps.one (show Kd.M (Kd.int .i64) _ _ _ t1282 [.int .i64 t1282] from rfl) (Reps.none _ _))))); intro v1314 w66 ho67 hb hg_ hnew_; clear hg_ hnew_; (first | rw [← Ny1313.out] at ho67 | (simp only [Int.reduceToNat] at ho67; rw [← Ny1313.out] at ho67)); have n0_ := Aside0.mk (Kd.R_below (by (with_reducible repeat (first | apply Kd.R_alloc | apply Kd.R_drewN | apply Kd.R_drew)); exact HO_3.out) hb); have n1_ := Aside0.mk (Kd.R_elder' (by (with_reducible repeat (first | apply Kd.R_alloc | apply Kd.R_drewN | apply Kd.R_drew)); exact HO1302.out) (Kd.R_base ho67) hb); have n2_ := Aside0.mk (Kd.R_elder' (by (with_reducible repeat (first | apply Kd.R_alloc | apply Kd.R_drewN | apply Kd.R_drew)); exact HO1305.out) (Kd.R_base ho67) hb); have n3_ := Aside0.mk (Kd.R_elder' (by (with_reducible repeat (first | apply Kd.R_alloc | apply Kd.R_drewN | apply Kd.R_drew)); exact HO1308.out) (Kd.R_base ho67) hb); have n4_ := Aside0.mk (Kd.R_elder' (by (with_reducible repeat (first | apply Kd.R_alloc | apply Kd.R_drewN | apply Kd.R_drew)); exact HO1311.out) (Kd.R_base ho67) hb); have n5_ := Aside0.mk (Kd.R_lower (Kd.R_new' (Kd.R_new' (Kd.R_new' (Kd.R_new' ho67 (Kd.R_lt (by (with_reducible repeat (first | apply Kd.R_alloc | apply Kd.R_drewN | apply Kd.R_drew)); exact HO1302.out))) (Kd.R_lt (by (with_reducible repeat (first | apply Kd.R_alloc | apply Kd.R_drewN | apply Kd.R_drew)); exact HO1305.out))) (Kd.R_lt (by (with_reducible repeat (first | apply Kd.R_alloc | apply Kd.R_drewN | apply Kd.R_drew)); exact HO1308.out))) (Kd.R_lt (by (with_reducible repeat (first | apply Kd.R_alloc | apply Kd.R_drewN | apply Kd.R_drew)); exact HO1311.out))) (below_size (by repeat (first | (with_reducible first | exact HB.out | apply below_alloc | apply pw_below_drewN | apply below_drew1 | refine below_set ?_ GE1290.out | refine below_set ?_ GE1294.out) | exact HB.out)))); have n6_ := Aside0.mk (blk_below (g := gb1290) (o := .cells #[.int .i64 t1287, .int .i64 t1288] 39 (0, 0)) (by (with_reducible repeat (first | refine blk_drewN ?_ _ | refine blk_drew ?_ | refine blk_alloc ?_ _)); exact BK1290.out) hb); have n7_ := Aside0.mk (blk_below (g := gb1294) (o := .cells #[.int .i64 t1291, .int .i64 t1292] 39 (0, 0)) (by (with_reducible repeat (first | refine blk_drewN ?_ _ | refine blk_drew ?_ | refine blk_alloc ?_ _)); exact BK1294.out) hb); have n8_ := Aside0.mk (below_step (by repeat (first | (with_reducible first | exact HB.out | apply below_alloc | apply pw_below_drewN | apply below_drew1 | refine below_set ?_ GE1290.out | refine below_set ?_ GE1294.out) | exact HB.out)) hb); clear HO_3; clear HO1302; clear HO1305; clear HO1308; clear HO1311; clear BK1290; clear BK1294; clear HB; have HO_3 := n0_; have HO1302 := n1_; have HO1305 := n2_; have HO1308 := n3_; have HO1311 := n4_; have HO1315 := n5_; have BK1290 := n6_; have BK1294 := n7_; have HB := n8_; clear n0_ n1_ n2_ n3_ n4_ n5_ n6_ n7_ n8_; clear hb ho67; obtain ⟨Ao68, co68, eo68⟩ := Kd.R_slice HO1315.out; subst eo68) | (go_at_call 42; (with_reducible refine (spec_OffList.calls kj7 _ _ t1281 t1283 _ _ y1313 t1316 _ ?side1 ?side2 ?side3 ?side4 A61.out).mono ?_); (case side1 => repeat (first | exact (Kd.R_reads' HO_3.out).2.2 | (with_reducible refine Kd.C_alloc ?_ _) | (with_reducible refine Kd.C_drewN ?_ _) | (with_reducible refine Kd.C_drew ?_))); (case side2 => exact (Kd.R_reads' HO_3.out).2.1); (case side3 => repeat (first | exact (Kd.R_reads' HO1315.out).2.2 | (with_reducible refine Kd.C_alloc ?_ _) | (with_reducible refine Kd.C_drewN ?_ _) | (with_reducible refine Kd.C_drew ?_))); (case side4 => exact (Kd.R_reads' HO1315.out).2.1); rintro e w69 ⟨v1317, rfl, ho0, hb⟩; have n0_ := Aside0.mk (Kd.R_below (by (with_reducible repeat (first | apply Kd.R_alloc | apply Kd.R_drewN | apply Kd.R_drew)); exact HO_3.out) hb); have n1_ := Aside0.mk (Kd.R_elder' (by (with_reducible repeat (first | apply Kd.R_alloc | apply Kd.R_drewN | apply Kd.R_drew)); exact HO1302.out) (Kd.R_base ho0) hb); have n2_ := Aside0.mk (Kd.R_elder' (by (with_reducible repeat (first | apply Kd.R_alloc | apply Kd.R_drewN | apply Kd.R_drew)); exact HO1305.out) (Kd.R_base ho0) hb); have n3_ := Aside0.mk (Kd.R_elder' (by (with_reducible repeat (first | apply Kd.R_alloc | apply Kd.R_drewN | apply Kd.R_drew)); exact HO1308.out) (Kd.R_base ho0) hb); have n4_ := Aside0.mk (Kd.R_elder' (by (with_reducible repeat (first | apply Kd.R_alloc | apply Kd.R_drewN | apply Kd.R_drew)); exact HO1311.out) (Kd.R_base ho0) hb); have n5_ := Aside0.mk (Kd.R_elder' (by (with_reducible repeat (first | apply Kd.R_alloc | apply Kd.R_drewN | apply Kd.R_drew)); exact HO1315.out) (Kd.R_base ho0) hb); have n6_ := Aside0.mk (Kd.R_lower (Kd.R_new' (Kd.R_new' (Kd.R_new' (Kd.R_new' (Kd.R_new' ho0 (Kd.R_lt (by (with_reducible repeat (first | apply Kd.R_alloc | apply Kd.R_drewN | apply Kd.R_drew)); exact HO1302.out))) (Kd.R_lt (by (with_reducible repeat (first | apply Kd.R_alloc | apply Kd.R_drewN | apply Kd.R_drew)); exact HO1305.out))) (Kd.R_lt (by (with_reducible repeat (first | apply Kd.R_alloc | apply Kd.R_drewN | apply Kd.R_drew)); exact HO1308.out))) (Kd.R_lt (by (with_reducible repeat (first | apply Kd.R_alloc | apply Kd.R_drewN | apply Kd.R_drew)); exact HO1311.out))) (Kd.R_lt (by (with_reducible repeat (first | apply Kd.R_alloc | apply Kd.R_drewN | apply Kd.R_drew)); exact HO1315.out))) (below_size (by repeat (first | (with_reducible first | exact HB.out | apply below_alloc | apply pw_below_drewN | apply below_drew1 | refine below_set ?_ GE1290.out | refine below_set ?_ GE1294.out) | exact HB.out)))); have n7_ := Aside0.mk (blk_below (g := gb1290) (o := .cells #[.int .i64 t1287, .int .i64 t1288] 39 (0, 0)) (by (with_reducible repeat (first | refine blk_drewN ?_ _ | refine blk_drew ?_ | refine blk_alloc ?_ _)); exact BK1290.out) hb); have n8_ := Aside0.mk (blk_below (g := gb1294) (o := .cells #[.int .i64 t1291, .int .i64 t1292] 39 (0, 0)) (by (with_reducible repeat (first | refine blk_drewN ?_ _ | refine blk_drew ?_ | refine blk_alloc ?_ _)); exact BK1294.out) hb); have n9_ := Aside0.mk (below_step (by repeat (first | (with_reducible first | exact HB.out | apply below_alloc | apply pw_below_drewN | apply below_drew1 | refine below_set ?_ GE1290.out | refine below_set ?_ GE1294.out) | exact HB.out)) hb); clear HO_3; clear HO1302; clear HO1305; clear HO1308; clear HO1311; clear HO1315; clear BK1290; clear BK1294; clear HB; have HO_3 := n0_; have HO1302 := n1_; have HO1305 := n2_; have HO1308 := n3_; have HO1311 := n4_; have HO1315 := n5_; have HO1318 := n6_; have BK1290 := n7_; have BK1294 := n8_; have HB := n9_; clear n0_ n1_ n2_ n3_ n4_ n5_ n6_ n7_ n8_ n9_; (try clear hb); (try clear hb2); (try clear hk); (try clear hi); (try clear ho0); obtain ⟨Ao70, co70, eo70⟩ := Kd.R_slice HO1308.out; subst eo70; obtain ⟨Ao71, co71, eo71⟩ := Kd.R_slice HO1318.out; subst eo71) | (go_at_call 61; (with_reducible refine (laws_sameInts.calls kj7 _ _ t1306 _ _ t1316 t1319 _ ?side1 ?side2 ?side3 ?side4 A62.out).mono ?_); (case side1 => repeat (first | exact (Kd.R_reads' HO1308.out).2.2 | (with_reducible refine Kd.C_alloc ?_ _) | (with_reducible refine Kd.C_drewN ?_ _) | (with_reducible refine Kd.C_drew ?_))); (case side2 => exact (Kd.R_reads' HO1308.out).2.1); (case side3 => repeat (first | exact (Kd.R_reads' HO1318.out).2.2 | (with_reducible refine Kd.C_alloc ?_ _) | (with_reducible refine Kd.C_drewN ?_ _) | (with_reducible refine Kd.C_drew ?_))); (case side4 => exact (Kd.R_reads' HO1318.out).2.1); rintro e w' ⟨rfl, ⟨nd, rfl⟩⟩))
       go_meet
       case rel => exact ⟨_, (!t1319), (by first | rfl | (simp; done) | (simp [*]; done)), H', ⟨by have := HJ7.out; first | omega | exact Nat.le_refl _⟩, ⟨by (with_reducible repeat (first | apply Kd.R_alloc | apply Kd.R_drewN | apply Kd.R_drew)); exact HO_3.out⟩, ⟨by (with_reducible repeat (first | apply Kd.R_alloc | apply Kd.R_drewN | apply Kd.R_drew)); exact Kd.R_mono HO1302.out (fun _ hk => hk.1.1.1.2)⟩, ⟨by (with_reducible repeat (first | apply Kd.R_alloc | apply Kd.R_drewN | apply Kd.R_drew)); exact Kd.R_mono HO1308.out (fun _ hk => hk.1.1.1.1.2)⟩, ⟨by (with_reducible repeat (first | refine blk_drewN ?_ _ | refine blk_drew ?_ | refine blk_alloc ?_ _)); exact BK1290.out⟩, ⟨by (with_reducible repeat (first | refine blk_drewN ?_ _ | refine blk_drew ?_ | refine blk_alloc ?_ _)); exact BK1294.out⟩, ⟨by repeat (first | (with_reducible first | exact HB.out | apply below_alloc | apply pw_below_drewN | apply below_drew1 | refine below_set ?_ GE1290.out | refine below_set ?_ GE1294.out) | exact HB.out)⟩⟩
      ·
       replace c60 := Bool.eq_false_iff.mpr c60
       subst c60
       have H1 : (laws_FnMayFly.j1 kj7 t1281 t1282 t1283 t1286 t1289 t1300 t1306 true t1287 t1288) = some r := by rw [if_neg (show ¬ (false = true) by decide)] at H; exact H
       clear H
       have H := H1
       clear H1
       have H' := Aside0.mk H
       clear H
       go_wp2_with (first | ((with_reducible refine gate_callee (f := 53) rfl ?_); refine goesL_ (some 91) rfl rfl Try.func53 (by kernel_rfl) rfl #[.slice Ao10 t1281.length co10, .int .i64 t1283] rfl (by (try simp only [List.map_toArray, List.map_cons, List.map_nil]); first | done | rfl | (simp only [List.length_drop, List.length_take]; rfl)) ?_; (with_reducible refine (spec_HeldUp.calls kj7 _ _ t1281 t1283 t1309 _ ?side1 ?side2 A58.out).mono ?_); (case side1 => repeat (first | exact (Kd.R_reads' HO_3.out).2.2 | (with_reducible refine Kd.C_alloc ?_ _) | (with_reducible refine Kd.C_drewN ?_ _) | (with_reducible refine Kd.C_drew ?_))); (case side2 => exact (Kd.R_reads' HO_3.out).2.1); rintro e w72 ⟨v1310, rfl, ho0, hb⟩; refine ⟨_, rfl, ?_⟩; have n0_ := Aside0.mk (Kd.R_below (by (with_reducible repeat (first | apply Kd.R_alloc | apply Kd.R_drewN | apply Kd.R_drew)); exact HO_3.out) hb); have n1_ := Aside0.mk (Kd.R_elder' (by (with_reducible repeat (first | apply Kd.R_alloc | apply Kd.R_drewN | apply Kd.R_drew)); exact HO1302.out) (Kd.R_base ho0) hb); have n2_ := Aside0.mk (Kd.R_elder' (by (with_reducible repeat (first | apply Kd.R_alloc | apply Kd.R_drewN | apply Kd.R_drew)); exact HO1305.out) (Kd.R_base ho0) hb); have n3_ := Aside0.mk (Kd.R_elder' (by (with_reducible repeat (first | apply Kd.R_alloc | apply Kd.R_drewN | apply Kd.R_drew)); exact HO1308.out) (Kd.R_base ho0) hb); have n4_ := Aside0.mk (Kd.R_lower (Kd.R_new' (Kd.R_new' (Kd.R_new' ho0 (Kd.R_lt (by (with_reducible repeat (first | apply Kd.R_alloc | apply Kd.R_drewN | apply Kd.R_drew)); exact HO1302.out))) (Kd.R_lt (by (with_reducible repeat (first | apply Kd.R_alloc | apply Kd.R_drewN | apply Kd.R_drew)); exact HO1305.out))) (Kd.R_lt (by (with_reducible repeat (first | apply Kd.R_alloc | apply Kd.R_drewN | apply Kd.R_drew)); exact HO1308.out))) (below_size (by repeat (first | (with_reducible first | exact HB.out | apply below_alloc | apply pw_below_drewN | apply below_drew1 | refine below_set ?_ GE1290.out | refine below_set ?_ GE1294.out) | exact HB.out)))); have n5_ := Aside0.mk (blk_below (g := gb1290) (o := .cells #[.int .i64 t1287, .int .i64 t1288] 39 (0, 0)) (by (with_reducible repeat (first | refine blk_drewN ?_ _ | refine blk_drew ?_ | refine blk_alloc ?_ _)); exact BK1290.out) hb); have n6_ := Aside0.mk (blk_below (g := gb1294) (o := .cells #[.int .i64 t1291, .int .i64 t1292] 39 (0, 0)) (by (with_reducible repeat (first | refine blk_drewN ?_ _ | refine blk_drew ?_ | refine blk_alloc ?_ _)); exact BK1294.out) hb); have n7_ := Aside0.mk (below_step (by repeat (first | (with_reducible first | exact HB.out | apply below_alloc | apply pw_below_drewN | apply below_drew1 | refine below_set ?_ GE1290.out | refine below_set ?_ GE1294.out) | exact HB.out)) hb); clear HO_3; clear HO1302; clear HO1305; clear HO1308; clear BK1290; clear BK1294; clear HB; have HO_3 := n0_; have HO1302 := n1_; have HO1305 := n2_; have HO1308 := n3_; have HO1311 := n4_; have BK1290 := n5_; have BK1294 := n6_; have HB := n7_; clear n0_ n1_ n2_ n3_ n4_ n5_ n6_ n7_; (try clear hb); (try clear hb2); (try clear hk); (try clear hi); (try clear ho0); obtain ⟨Ao73, co73, eo73⟩ := Kd.R_slice HO1302.out; subst eo73; obtain ⟨Ao74, co74, eo74⟩ := Kd.R_slice HO1311.out; subst eo74) | ((with_reducible refine gate_callee (f := 61) rfl ?_); refine goesL_ (some 92) rfl rfl Try.func61 (by kernel_rfl) rfl #[.slice Ao73 t1300.length co73, .slice Ao74 t1309.length co74] rfl (by (try simp only [List.map_toArray, List.map_cons, List.map_nil]); first | done | rfl | (simp only [List.length_drop, List.length_take]; rfl)) ?_; (with_reducible refine (laws_sameInts.calls kj7 _ _ t1300 _ _ t1309 false _ ?side1 ?side2 ?side3 ?side4 A59.out).mono ?_); (case side1 => repeat (first | exact (Kd.R_reads' HO1302.out).2.2 | (with_reducible refine Kd.C_alloc ?_ _) | (with_reducible refine Kd.C_drewN ?_ _) | (with_reducible refine Kd.C_drew ?_))); (case side2 => exact (Kd.R_reads' HO1302.out).2.1); (case side3 => repeat (first | exact (Kd.R_reads' HO1311.out).2.2 | (with_reducible refine Kd.C_alloc ?_ _) | (with_reducible refine Kd.C_drewN ?_ _) | (with_reducible refine Kd.C_drew ?_))); (case side4 => exact (Kd.R_reads' HO1311.out).2.1); rintro e w' ⟨rfl, ⟨nd, rfl⟩⟩; refine ⟨_, rfl, ?_⟩))
       go_meet
       case rel => exact ⟨_, (true), (by first | rfl | (simp; done) | (simp [*]; done)), H', ⟨by have := HJ7.out; first | omega | exact Nat.le_refl _⟩, ⟨by (with_reducible repeat (first | apply Kd.R_alloc | apply Kd.R_drewN | apply Kd.R_drew)); exact HO_3.out⟩, ⟨by (with_reducible repeat (first | apply Kd.R_alloc | apply Kd.R_drewN | apply Kd.R_drew)); exact Kd.R_mono HO1302.out (fun _ hk => hk.1.2)⟩, ⟨by (with_reducible repeat (first | apply Kd.R_alloc | apply Kd.R_drewN | apply Kd.R_drew)); exact Kd.R_mono HO1308.out (fun _ hk => hk.1.1.2)⟩, ⟨by (with_reducible repeat (first | refine blk_drewN ?_ _ | refine blk_drew ?_ | refine blk_alloc ?_ _)); exact BK1290.out⟩, ⟨by (with_reducible repeat (first | refine blk_drewN ?_ _ | refine blk_drew ?_ | refine blk_alloc ?_ _)); exact BK1294.out⟩, ⟨by repeat (first | (with_reducible first | exact HB.out | apply below_alloc | apply pw_below_drewN | apply below_drew1 | refine below_set ?_ GE1290.out | refine below_set ?_ GE1294.out) | exact HB.out)⟩⟩
     case rest =>
      clear HC52
      try clear c2
      try clear p2
      try clear c3
      try clear c4
      try clear c5
      try clear c6
      try clear p6
      try clear c29
      try clear c30
      try clear c31
      try clear c32
      try clear c34
      try clear c34b0
      try clear c34b1
      try clear c34b2
      try clear c36
      try clear c44
      try clear c49
      try clear c53
      try clear c54
      try clear c60
      try clear c61
      try clear p64
      try clear p2
      obtain ⟨kq, x106_51, rfl, HA, HJ51, HO_3, HO_11, HO_12, BK1290, BK1294, HB⟩ := hcut
      cases kq with
      | zero => exact absurd HA.out (by simp [laws_FnMayFly.j1])
      | succ kj51 =>
       have H := HA.out
       clear HA
       simp only [laws_FnMayFly.j1] at H
       by_cases c75 : x106_51 = true
       ·
        subst c75
        have H1 : (some false) = some r := by rw [if_pos rfl] at H; exact H
        clear H
        have H := H1
        clear H1
        obtain rfl := Option.some.inj H
        go_wp2
        go_ret
        exact ⟨by first | rfl | (simp [errW_none, errW_some] <;> rfl) | (simp [*, errW_none, errW_some] <;> rfl), by repeat (first | (with_reducible first | exact HB.out | apply below_alloc | apply pw_below_drewN | apply below_drew1 | refine below_set ?_ GE1290.out | refine below_set ?_ GE1294.out) | exact HB.out)⟩
       ·
        replace c75 := Bool.eq_false_iff.mpr c75
        subst c75
        have H1 : (if t1289 = true then (if t1288 = t1283 then ((impl_Pulled.f kj51 t1281 t1282 t1283).bind fun t1320 => (if t1320 = true then (laws_FnMayFly.j2 kj51 t1281 t1282 t1283 t1286 t1289 t1306 false t1287 t1288) else ((laws_has.f kj51 t1300 t1287).bind fun t1321 => (laws_FnMayFly.j2 kj51 t1281 t1282 t1283 t1286 t1289 t1306 (t1321 == t1286) t1287 t1288)))) else (laws_FnMayFly.j2 kj51 t1281 t1282 t1283 t1286 t1289 t1306 false t1287 t1288)) else (laws_FnMayFly.j2 kj51 t1281 t1282 t1283 t1286 t1289 t1306 false t1287 t1288)) = some r := by rw [if_neg (show ¬ (false = true) by decide)] at H; exact H
        clear H
        have H := H1
        clear H1
        have HC76 := Aside0.mk H
        clear H
        go_upto_region 13 with (fail)
        go_cut [128] (fun v128 wc => ∃ (kq : Nat) (x128_75 : Bool), v128 = .bool x128_75 ∧ Aside0 (laws_FnMayFly.j2 kq t1281 t1282 t1283 t1286 t1289 t1306 x128_75 t1287 t1288 = some r) ∧ Aside0 (kq ≤ kj51) ∧ Aside0 (Kd.R k25 25 wc w.heap.size (fun _ => True) (.slice Ao10 t1281.length co10) t1281) ∧ Aside0 (Kd.R (Kd.int .i64) 3 wc w.heap.size (fun _ => True) v1307 t1306) ∧ Aside0 (wc.heap[gb1290]? = some (.cells #[.int .i64 t1287, .int .i64 t1288] 39 (0, 0))) ∧ Aside0 (wc.heap[gb1294]? = some (.cells #[.int .i64 t1291, .int .i64 t1292] 39 (0, 0))) ∧ Aside0 (Below w.heap.size w wc))
        case first =>
         have H := HC76.out
         clear HC76
         by_cases c77 : t1289 = true
         ·
          subst c77
          have H1 : (if t1288 = t1283 then ((impl_Pulled.f kj51 t1281 t1282 t1283).bind fun t1320 => (if t1320 = true then (laws_FnMayFly.j2 kj51 t1281 t1282 t1283 t1286 true t1306 false t1287 t1288) else ((laws_has.f kj51 t1300 t1287).bind fun t1321 => (laws_FnMayFly.j2 kj51 t1281 t1282 t1283 t1286 true t1306 (t1321 == t1286) t1287 t1288)))) else (laws_FnMayFly.j2 kj51 t1281 t1282 t1283 t1286 true t1306 false t1287 t1288)) = some r := by rw [if_pos rfl] at H; exact H
          clear H
          have H := H1
          clear H1
          by_cases c78 : t1288 = t1283
          ·
           rw [if_pos c78] at H
           have c78b0 : (t1288 == t1283) = true := beq_iff_eq.mpr c78
           have c78b1 : (t1288 != t1283) = false := bne_eq_false_iff_eq.mpr c78
           clear c78
           (first | rw [c78b0] | (simp only [i64_w, i32_w]; rw [c78b0]) | skip)
           replace H := Option.bind_eq_some_iff.mp H
           obtain ⟨t1320, A790, H⟩ := H
           replace H : (if t1320 = true then (laws_FnMayFly.j2 kj51 t1281 t1282 t1283 t1286 true t1306 false t1287 t1288) else ((laws_has.f kj51 t1300 t1287).bind fun t1321 => (laws_FnMayFly.j2 kj51 t1281 t1282 t1283 t1286 true t1306 (t1321 == t1286) t1287 t1288))) = some r := H
           have A79 := Aside0.mk A790
           clear A790
           by_cases c80 : t1320 = true
           ·
            subst c80
            have H1 : (laws_FnMayFly.j2 kj51 t1281 t1282 t1283 t1286 true t1306 false t1287 t1288) = some r := by rw [if_pos rfl] at H; exact H
            clear H
            have H := H1
            clear H1
            have H' := Aside0.mk H
            clear H
            have hnb81 := NB1290_1294.out
            have hnc81 := NB1294_1290.out
            have hcz82_0 : wc.cell? ⟨gb1290, 0, none⟩ = some (.int .i64 t1287) := (blk_cell BK1290.out 0).trans rfl
            have hcz82_1 : wc.cell? ⟨gb1290, 1, none⟩ = some (.int .i64 t1288) := (blk_cell BK1290.out 1).trans rfl
            have hfz82_0 := blk_frozen BK1290.out 0
            have hfz82_1 := blk_frozen BK1290.out 1
            go_wp2_with (first | (go_at_call 32; (with_reducible refine (impl_Pulled.calls kj51 _ _ t1281 t1282 t1283 true _ ?side1 ?side2 A79.out).mono ?_); (case side1 => repeat (first | exact (Kd.R_reads' HO_3.out).2.2 | (with_reducible refine Kd.C_alloc ?_ _) | (with_reducible refine Kd.C_drewN ?_ _) | (with_reducible refine Kd.C_drew ?_))); (case side2 => exact (Kd.R_reads' HO_3.out).2.1); rintro e w83 ⟨rfl, hb⟩; have n0_ := Aside0.mk (Kd.R_below (by (with_reducible repeat (first | apply Kd.R_alloc | apply Kd.R_drewN | apply Kd.R_drew)); exact HO_3.out) hb); have n1_ := Aside0.mk (Kd.R_below (by (with_reducible repeat (first | apply Kd.R_alloc | apply Kd.R_drewN | apply Kd.R_drew)); exact HO_11.out) hb); have n2_ := Aside0.mk (Kd.R_below (by (with_reducible repeat (first | apply Kd.R_alloc | apply Kd.R_drewN | apply Kd.R_drew)); exact HO_12.out) hb); have n3_ := Aside0.mk (blk_below (g := gb1290) (o := .cells #[.int .i64 t1287, .int .i64 t1288] 39 (0, 0)) (by (with_reducible repeat (first | refine blk_drewN ?_ _ | refine blk_drew ?_ | refine blk_alloc ?_ _)); exact BK1290.out) hb); have n4_ := Aside0.mk (blk_below (g := gb1294) (o := .cells #[.int .i64 t1291, .int .i64 t1292] 39 (0, 0)) (by (with_reducible repeat (first | refine blk_drewN ?_ _ | refine blk_drew ?_ | refine blk_alloc ?_ _)); exact BK1294.out) hb); have n5_ := Aside0.mk (below_step (by repeat (first | (with_reducible first | exact HB.out | apply below_alloc | apply pw_below_drewN | apply below_drew1 | refine below_set ?_ GE1290.out | refine below_set ?_ GE1294.out) | exact HB.out)) hb); clear HO_3; clear HO_11; clear HO_12; clear BK1290; clear BK1294; clear HB; have HO_3 := n0_; have HO_11 := n1_; have HO_12 := n2_; have BK1290 := n3_; have BK1294 := n4_; have HB := n5_; clear n0_ n1_ n2_ n3_ n4_ n5_; (try clear hb); (try clear hb2); (try clear hk); (try clear hi)))
            go_meet
            case rel => exact ⟨_, (false), (by first | rfl | (simp; done) | (simp [*]; done)), H', ⟨by have := HJ7.out; have := HJ51.out; first | omega | exact Nat.le_refl _⟩, ⟨by (with_reducible repeat (first | apply Kd.R_alloc | apply Kd.R_drewN | apply Kd.R_drew)); exact HO_3.out⟩, ⟨by (with_reducible repeat (first | apply Kd.R_alloc | apply Kd.R_drewN | apply Kd.R_drew)); exact Kd.R_mono HO_12.out (fun _ hk => trivial)⟩, ⟨by (with_reducible repeat (first | refine blk_drewN ?_ _ | refine blk_drew ?_ | refine blk_alloc ?_ _)); exact BK1290.out⟩, ⟨by (with_reducible repeat (first | refine blk_drewN ?_ _ | refine blk_drew ?_ | refine blk_alloc ?_ _)); exact BK1294.out⟩, ⟨by repeat (first | (with_reducible first | exact HB.out | apply below_alloc | apply pw_below_drewN | apply below_drew1 | refine below_set ?_ GE1290.out | refine below_set ?_ GE1294.out) | exact HB.out)⟩⟩
           ·
            replace c80 := Bool.eq_false_iff.mpr c80
            subst c80
            have H1 : ((laws_has.f kj51 t1300 t1287).bind fun t1321 => (laws_FnMayFly.j2 kj51 t1281 t1282 t1283 t1286 true t1306 (t1321 == t1286) t1287 t1288)) = some r := by rw [if_neg (show ¬ (false = true) by decide)] at H; exact H
            clear H
            have H := H1
            clear H1
            replace H := Option.bind_eq_some_iff.mp H
            obtain ⟨t1321, A840, H⟩ := H
            replace H : (laws_FnMayFly.j2 kj51 t1281 t1282 t1283 t1286 true t1306 (t1321 == t1286) t1287 t1288) = some r := H
            have A84 := Aside0.mk A840
            clear A840
            have H' := Aside0.mk H
            clear H
            have hnb85 := NB1290_1294.out
            have hnc85 := NB1294_1290.out
            have hcz86_0 : wc.cell? ⟨gb1290, 0, none⟩ = some (.int .i64 t1287) := (blk_cell BK1290.out 0).trans rfl
            have hcz86_1 : wc.cell? ⟨gb1290, 1, none⟩ = some (.int .i64 t1288) := (blk_cell BK1290.out 1).trans rfl
            have hfz86_0 := blk_frozen BK1290.out 0
            have hfz86_1 := blk_frozen BK1290.out 1
            go_wp2_with (first | (go_at_call 32; (with_reducible refine (impl_Pulled.calls kj51 _ _ t1281 t1282 t1283 false _ ?side1 ?side2 A79.out).mono ?_); (case side1 => repeat (first | exact (Kd.R_reads' HO_3.out).2.2 | (with_reducible refine Kd.C_alloc ?_ _) | (with_reducible refine Kd.C_drewN ?_ _) | (with_reducible refine Kd.C_drew ?_))); (case side2 => exact (Kd.R_reads' HO_3.out).2.1); rintro e w87 ⟨rfl, hb⟩; have n0_ := Aside0.mk (Kd.R_below (by (with_reducible repeat (first | apply Kd.R_alloc | apply Kd.R_drewN | apply Kd.R_drew)); exact HO_3.out) hb); have n1_ := Aside0.mk (Kd.R_below (by (with_reducible repeat (first | apply Kd.R_alloc | apply Kd.R_drewN | apply Kd.R_drew)); exact HO_11.out) hb); have n2_ := Aside0.mk (Kd.R_below (by (with_reducible repeat (first | apply Kd.R_alloc | apply Kd.R_drewN | apply Kd.R_drew)); exact HO_12.out) hb); have n3_ := Aside0.mk (blk_below (g := gb1290) (o := .cells #[.int .i64 t1287, .int .i64 t1288] 39 (0, 0)) (by (with_reducible repeat (first | refine blk_drewN ?_ _ | refine blk_drew ?_ | refine blk_alloc ?_ _)); exact BK1290.out) hb); have n4_ := Aside0.mk (blk_below (g := gb1294) (o := .cells #[.int .i64 t1291, .int .i64 t1292] 39 (0, 0)) (by (with_reducible repeat (first | refine blk_drewN ?_ _ | refine blk_drew ?_ | refine blk_alloc ?_ _)); exact BK1294.out) hb); have n5_ := Aside0.mk (below_step (by repeat (first | (with_reducible first | exact HB.out | apply below_alloc | apply pw_below_drewN | apply below_drew1 | refine below_set ?_ GE1290.out | refine below_set ?_ GE1294.out) | exact HB.out)) hb); clear HO_3; clear HO_11; clear HO_12; clear BK1290; clear BK1294; clear HB; have HO_3 := n0_; have HO_11 := n1_; have HO_12 := n2_; have BK1290 := n3_; have BK1294 := n4_; have HB := n5_; clear n0_ n1_ n2_ n3_ n4_ n5_; (try clear hb); (try clear hb2); (try clear hk); (try clear hi); have hcz88_0 : w87.cell? ⟨gb1290, 0, none⟩ = some (.int .i64 t1287) := (blk_cell BK1290.out 0).trans rfl; have hcz88_1 : w87.cell? ⟨gb1290, 1, none⟩ = some (.int .i64 t1288) := (blk_cell BK1290.out 1).trans rfl; have hfz88_0 := blk_frozen BK1290.out 0; have hfz88_1 := blk_frozen BK1290.out 1; obtain ⟨Ao89, co89, eo89⟩ := Kd.R_slice HO_11.out; subst eo89) | (go_at_call 62; (with_reducible refine (laws_has.calls kj51 _ _ t1300 t1287 t1321 _ ?side1 ?side2 A84.out).mono ?_); (case side1 => repeat (first | exact (Kd.R_reads' HO_11.out).2.2 | (with_reducible refine Kd.C_alloc ?_ _) | (with_reducible refine Kd.C_drewN ?_ _) | (with_reducible refine Kd.C_drew ?_))); (case side2 => exact (Kd.R_reads' HO_11.out).2.1); rintro e w' ⟨rfl, ⟨nd, rfl⟩⟩))
            go_meet
            case rel => exact ⟨_, ((t1321 == t1286)), (by first | rfl | (simp; done) | (simp [*]; done)), H', ⟨by have := HJ7.out; have := HJ51.out; first | omega | exact Nat.le_refl _⟩, ⟨by (with_reducible repeat (first | apply Kd.R_alloc | apply Kd.R_drewN | apply Kd.R_drew)); exact HO_3.out⟩, ⟨by (with_reducible repeat (first | apply Kd.R_alloc | apply Kd.R_drewN | apply Kd.R_drew)); exact Kd.R_mono HO_12.out (fun _ hk => trivial)⟩, ⟨by (with_reducible repeat (first | refine blk_drewN ?_ _ | refine blk_drew ?_ | refine blk_alloc ?_ _)); exact BK1290.out⟩, ⟨by (with_reducible repeat (first | refine blk_drewN ?_ _ | refine blk_drew ?_ | refine blk_alloc ?_ _)); exact BK1294.out⟩, ⟨by repeat (first | (with_reducible first | exact HB.out | apply below_alloc | apply pw_below_drewN | apply below_drew1 | refine below_set ?_ GE1290.out | refine below_set ?_ GE1294.out) | exact HB.out)⟩⟩
          ·
           rw [if_neg c78] at H
           have c78b0 : (t1288 == t1283) = false := beq_eq_false_iff_ne.mpr c78
           have c78b1 : (t1288 != t1283) = true := bne_iff_ne.mpr c78
           (first | rw [c78b0] | (simp only [i64_w, i32_w]; rw [c78b0]) | skip)
           have H' := Aside0.mk H
           clear H
           have hnb90 := NB1290_1294.out
           have hnc90 := NB1294_1290.out
           have hcz91_0 : wc.cell? ⟨gb1290, 0, none⟩ = some (.int .i64 t1287) := (blk_cell BK1290.out 0).trans rfl
           have hcz91_1 : wc.cell? ⟨gb1290, 1, none⟩ = some (.int .i64 t1288) := (blk_cell BK1290.out 1).trans rfl
           have hfz91_0 := blk_frozen BK1290.out 0
           have hfz91_1 := blk_frozen BK1290.out 1
           go_wp2
           go_meet
           case rel => exact ⟨_, (false), (by first | rfl | (simp; done) | (simp [*]; done)), H', ⟨by have := HJ7.out; have := HJ51.out; first | omega | exact Nat.le_refl _⟩, ⟨by (with_reducible repeat (first | apply Kd.R_alloc | apply Kd.R_drewN | apply Kd.R_drew)); exact HO_3.out⟩, ⟨by (with_reducible repeat (first | apply Kd.R_alloc | apply Kd.R_drewN | apply Kd.R_drew)); exact Kd.R_mono HO_12.out (fun _ hk => trivial)⟩, ⟨by (with_reducible repeat (first | refine blk_drewN ?_ _ | refine blk_drew ?_ | refine blk_alloc ?_ _)); exact BK1290.out⟩, ⟨by (with_reducible repeat (first | refine blk_drewN ?_ _ | refine blk_drew ?_ | refine blk_alloc ?_ _)); exact BK1294.out⟩, ⟨by repeat (first | (with_reducible first | exact HB.out | apply below_alloc | apply pw_below_drewN | apply below_drew1 | refine below_set ?_ GE1290.out | refine below_set ?_ GE1294.out) | exact HB.out)⟩⟩
         ·
          replace c77 := Bool.eq_false_iff.mpr c77
          subst c77
          have H1 : (laws_FnMayFly.j2 kj51 t1281 t1282 t1283 t1286 false t1306 false t1287 t1288) = some r := by rw [if_neg (show ¬ (false = true) by decide)] at H; exact H
          clear H
          have H := H1
          clear H1
          have H' := Aside0.mk H
          clear H
          go_wp2
          go_meet
          case rel => exact ⟨_, (false), (by first | rfl | (simp; done) | (simp [*]; done)), H', ⟨by have := HJ7.out; have := HJ51.out; first | omega | exact Nat.le_refl _⟩, ⟨by (with_reducible repeat (first | apply Kd.R_alloc | apply Kd.R_drewN | apply Kd.R_drew)); exact HO_3.out⟩, ⟨by (with_reducible repeat (first | apply Kd.R_alloc | apply Kd.R_drewN | apply Kd.R_drew)); exact Kd.R_mono HO_12.out (fun _ hk => trivial)⟩, ⟨by (with_reducible repeat (first | refine blk_drewN ?_ _ | refine blk_drew ?_ | refine blk_alloc ?_ _)); exact BK1290.out⟩, ⟨by (with_reducible repeat (first | refine blk_drewN ?_ _ | refine blk_drew ?_ | refine blk_alloc ?_ _)); exact BK1294.out⟩, ⟨by repeat (first | (with_reducible first | exact HB.out | apply below_alloc | apply pw_below_drewN | apply below_drew1 | refine below_set ?_ GE1290.out | refine below_set ?_ GE1294.out) | exact HB.out)⟩⟩
        case rest =>
         clear HC76
         try clear c2
         try clear p2
         try clear c3
         try clear c4
         try clear c5
         try clear c6
         try clear p6
         try clear c7
         try clear c8
         try clear c9
         try clear c29
         try clear c30
         try clear c31
         try clear c32
         try clear c34
         try clear c34b0
         try clear c34b1
         try clear c34b2
         try clear c36
         try clear c44
         try clear c49
         try clear c53
         try clear c54
         try clear c60
         try clear c61
         try clear p64
         try clear c75
         try clear c77
         try clear c78
         try clear c78b0
         try clear c78b1
         try clear c80
         try clear c81
         try clear c85
         try clear c90
         try clear hcz82_0
         try clear hcz82_1
         try clear hcz86_0
         try clear hcz86_1
         try clear hcz88_0
         try clear hcz88_1
         try clear hcz91_0
         try clear hcz91_1
         try clear hfz82_0
         try clear hfz82_1
         try clear hfz86_0
         try clear hfz86_1
         try clear hfz88_0
         try clear hfz88_1
         try clear hfz91_0
         try clear hfz91_1
         try clear p2
         try clear p6
         try clear p64
         obtain ⟨kq, x128_75, rfl, HA, HJ75, HO_3, HO_12, BK1290, BK1294, HB⟩ := hcut
         cases kq with
         | zero => exact absurd HA.out (by simp [laws_FnMayFly.j2])
         | succ kj75 =>
          have H := HA.out
          clear HA
          simp only [laws_FnMayFly.j2] at H
          by_cases c92 : x128_75 = true
          ·
           subst c92
           have H1 : (some false) = some r := by rw [if_pos rfl] at H; exact H
           clear H
           have H := H1
           clear H1
           obtain rfl := Option.some.inj H
           go_wp2
           go_ret
           exact ⟨by first | rfl | (simp [errW_none, errW_some] <;> rfl) | (simp [*, errW_none, errW_some] <;> rfl), by repeat (first | (with_reducible first | exact HB.out | apply below_alloc | apply pw_below_drewN | apply below_drew1 | refine below_set ?_ GE1290.out | refine below_set ?_ GE1294.out) | exact HB.out)⟩
          ·
           replace c92 := Bool.eq_false_iff.mpr c92
           subst c92
           have H1 : (if t1286 = true then (if t1289 = true then (if t1288 = t1283 then ((impl_Aboard.f kj75 t1281 t1287 t1283).bind fun t1322 => (if t1322 = true then ((laws_has.f kj75 t1306 t1282).bind fun t1323 => (some (!t1323))) else (some false))) else (some false)) else (some false)) else (some true)) = some r := by rw [if_neg (show ¬ (false = true) by decide)] at H; exact H
           clear H
           have H := H1
           clear H1
           by_cases c93 : t1286 = true
           ·
            subst c93
            have H1 : (if t1289 = true then (if t1288 = t1283 then ((impl_Aboard.f kj75 t1281 t1287 t1283).bind fun t1322 => (if t1322 = true then ((laws_has.f kj75 t1306 t1282).bind fun t1323 => (some (!t1323))) else (some false))) else (some false)) else (some false)) = some r := by rw [if_pos rfl] at H; exact H
            clear H
            have H := H1
            clear H1
            by_cases c94 : t1289 = true
            ·
             subst c94
             have H1 : (if t1288 = t1283 then ((impl_Aboard.f kj75 t1281 t1287 t1283).bind fun t1322 => (if t1322 = true then ((laws_has.f kj75 t1306 t1282).bind fun t1323 => (some (!t1323))) else (some false))) else (some false)) = some r := by rw [if_pos rfl] at H; exact H
             clear H
             have H := H1
             clear H1
             by_cases c95 : t1288 = t1283
             ·
              rw [if_pos c95] at H
              have c95b0 : (t1288 == t1283) = true := beq_iff_eq.mpr c95
              have c95b1 : (t1288 != t1283) = false := bne_eq_false_iff_eq.mpr c95
              clear c95
              replace H := Option.bind_eq_some_iff.mp H
              obtain ⟨t1322, A960, H⟩ := H
              replace H : (if t1322 = true then ((laws_has.f kj75 t1306 t1282).bind fun t1323 => (some (!t1323))) else (some false)) = some r := H
              have A96 := Aside0.mk A960
              clear A960
              by_cases c97 : t1322 = true
              ·
               subst c97
               have H1 : ((laws_has.f kj75 t1306 t1282).bind fun t1323 => (some (!t1323))) = some r := by rw [if_pos rfl] at H; exact H
               clear H
               have H := H1
               clear H1
               replace H := Option.bind_eq_some_iff.mp H
               obtain ⟨t1323, A980, H⟩ := H
               replace H : (some (!t1323)) = some r := H
               have A98 := Aside0.mk A980
               clear A980
               obtain rfl := Option.some.inj H
               have hnb99 := NB1290_1294.out
               have hnc99 := NB1294_1290.out
               have hcz100_0 : wc.cell? ⟨gb1290, 0, none⟩ = some (.int .i64 t1287) := (blk_cell BK1290.out 0).trans rfl
               have hcz100_1 : wc.cell? ⟨gb1290, 1, none⟩ = some (.int .i64 t1288) := (blk_cell BK1290.out 1).trans rfl
               have hfz100_0 := blk_frozen BK1290.out 0
               have hfz100_1 := blk_frozen BK1290.out 1
               go_wp2_with (first | (go_at_call 30; (with_reducible refine (impl_Aboard.calls kj75 _ _ t1281 t1287 t1283 true _ ?side1 ?side2 A96.out).mono ?_); (case side1 => repeat (first | exact (Kd.R_reads' HO_3.out).2.2 | (with_reducible refine Kd.C_alloc ?_ _) | (with_reducible refine Kd.C_drewN ?_ _) | (with_reducible refine Kd.C_drew ?_))); (case side2 => exact (Kd.R_reads' HO_3.out).2.1); rintro e w101 ⟨rfl, hb⟩; have n0_ := Aside0.mk (Kd.R_below (by (with_reducible repeat (first | apply Kd.R_alloc | apply Kd.R_drewN | apply Kd.R_drew)); exact HO_3.out) hb); have n1_ := Aside0.mk (Kd.R_below (by (with_reducible repeat (first | apply Kd.R_alloc | apply Kd.R_drewN | apply Kd.R_drew)); exact HO_12.out) hb); have n2_ := Aside0.mk (blk_below (g := gb1290) (o := .cells #[.int .i64 t1287, .int .i64 t1288] 39 (0, 0)) (by (with_reducible repeat (first | refine blk_drewN ?_ _ | refine blk_drew ?_ | refine blk_alloc ?_ _)); exact BK1290.out) hb); have n3_ := Aside0.mk (blk_below (g := gb1294) (o := .cells #[.int .i64 t1291, .int .i64 t1292] 39 (0, 0)) (by (with_reducible repeat (first | refine blk_drewN ?_ _ | refine blk_drew ?_ | refine blk_alloc ?_ _)); exact BK1294.out) hb); have n4_ := Aside0.mk (below_step (by repeat (first | (with_reducible first | exact HB.out | apply below_alloc | apply pw_below_drewN | apply below_drew1 | refine below_set ?_ GE1290.out | refine below_set ?_ GE1294.out) | exact HB.out)) hb); clear HO_3; clear HO_12; clear BK1290; clear BK1294; clear HB; have HO_3 := n0_; have HO_12 := n1_; have BK1290 := n2_; have BK1294 := n3_; have HB := n4_; clear n0_ n1_ n2_ n3_ n4_; (try clear hb); (try clear hb2); (try clear hk); (try clear hi); obtain ⟨Ao102, co102, eo102⟩ := Kd.R_slice HO_12.out; subst eo102) | (go_at_call 62; (with_reducible refine (laws_has.calls kj75 _ _ t1306 t1282 t1323 _ ?side1 ?side2 A98.out).mono ?_); (case side1 => repeat (first | exact (Kd.R_reads' HO_12.out).2.2 | (with_reducible refine Kd.C_alloc ?_ _) | (with_reducible refine Kd.C_drewN ?_ _) | (with_reducible refine Kd.C_drew ?_))); (case side2 => exact (Kd.R_reads' HO_12.out).2.1); rintro e w' ⟨rfl, ⟨nd, rfl⟩⟩))
               go_ret
               exact ⟨by first | rfl | (simp [errW_none, errW_some] <;> rfl) | (simp [*, errW_none, errW_some] <;> rfl), by repeat (first | (with_reducible first | exact HB.out | apply below_alloc | apply pw_below_drewN | apply below_drew1 | refine below_set ?_ GE1290.out | refine below_set ?_ GE1294.out) | exact HB.out)⟩
              ·
               replace c97 := Bool.eq_false_iff.mpr c97
               subst c97
               have H1 : (some false) = some r := by rw [if_neg (show ¬ (false = true) by decide)] at H; exact H
               clear H
               have H := H1
               clear H1
               obtain rfl := Option.some.inj H
               have hnb103 := NB1290_1294.out
               have hnc103 := NB1294_1290.out
               have hcz104_0 : wc.cell? ⟨gb1290, 0, none⟩ = some (.int .i64 t1287) := (blk_cell BK1290.out 0).trans rfl
               have hcz104_1 : wc.cell? ⟨gb1290, 1, none⟩ = some (.int .i64 t1288) := (blk_cell BK1290.out 1).trans rfl
               have hfz104_0 := blk_frozen BK1290.out 0
               have hfz104_1 := blk_frozen BK1290.out 1
               go_wp2_with (first | (go_at_call 30; (with_reducible refine (impl_Aboard.calls kj75 _ _ t1281 t1287 t1283 false _ ?side1 ?side2 A96.out).mono ?_); (case side1 => repeat (first | exact (Kd.R_reads' HO_3.out).2.2 | (with_reducible refine Kd.C_alloc ?_ _) | (with_reducible refine Kd.C_drewN ?_ _) | (with_reducible refine Kd.C_drew ?_))); (case side2 => exact (Kd.R_reads' HO_3.out).2.1); rintro e w105 ⟨rfl, hb⟩; have n0_ := Aside0.mk (Kd.R_below (by (with_reducible repeat (first | apply Kd.R_alloc | apply Kd.R_drewN | apply Kd.R_drew)); exact HO_3.out) hb); have n1_ := Aside0.mk (Kd.R_below (by (with_reducible repeat (first | apply Kd.R_alloc | apply Kd.R_drewN | apply Kd.R_drew)); exact HO_12.out) hb); have n2_ := Aside0.mk (blk_below (g := gb1290) (o := .cells #[.int .i64 t1287, .int .i64 t1288] 39 (0, 0)) (by (with_reducible repeat (first | refine blk_drewN ?_ _ | refine blk_drew ?_ | refine blk_alloc ?_ _)); exact BK1290.out) hb); have n3_ := Aside0.mk (blk_below (g := gb1294) (o := .cells #[.int .i64 t1291, .int .i64 t1292] 39 (0, 0)) (by (with_reducible repeat (first | refine blk_drewN ?_ _ | refine blk_drew ?_ | refine blk_alloc ?_ _)); exact BK1294.out) hb); have n4_ := Aside0.mk (below_step (by repeat (first | (with_reducible first | exact HB.out | apply below_alloc | apply pw_below_drewN | apply below_drew1 | refine below_set ?_ GE1290.out | refine below_set ?_ GE1294.out) | exact HB.out)) hb); clear HO_3; clear HO_12; clear BK1290; clear BK1294; clear HB; have HO_3 := n0_; have HO_12 := n1_; have BK1290 := n2_; have BK1294 := n3_; have HB := n4_; clear n0_ n1_ n2_ n3_ n4_; (try clear hb); (try clear hb2); (try clear hk); (try clear hi)))
               go_ret
               exact ⟨by first | rfl | (simp [errW_none, errW_some] <;> rfl) | (simp [*, errW_none, errW_some] <;> rfl), by repeat (first | (with_reducible first | exact HB.out | apply below_alloc | apply pw_below_drewN | apply below_drew1 | refine below_set ?_ GE1290.out | refine below_set ?_ GE1294.out) | exact HB.out)⟩
             ·
              rw [if_neg c95] at H
              have c95b0 : (t1288 == t1283) = false := beq_eq_false_iff_ne.mpr c95
              have c95b1 : (t1288 != t1283) = true := bne_iff_ne.mpr c95
              obtain rfl := Option.some.inj H
              have hnb106 := NB1290_1294.out
              have hnc106 := NB1294_1290.out
              have hcz107_0 : wc.cell? ⟨gb1290, 0, none⟩ = some (.int .i64 t1287) := (blk_cell BK1290.out 0).trans rfl
              have hcz107_1 : wc.cell? ⟨gb1290, 1, none⟩ = some (.int .i64 t1288) := (blk_cell BK1290.out 1).trans rfl
              have hfz107_0 := blk_frozen BK1290.out 0
              have hfz107_1 := blk_frozen BK1290.out 1
              go_wp2
              go_ret
              exact ⟨by first | rfl | (simp [errW_none, errW_some] <;> rfl) | (simp [*, errW_none, errW_some] <;> rfl), by repeat (first | (with_reducible first | exact HB.out | apply below_alloc | apply pw_below_drewN | apply below_drew1 | refine below_set ?_ GE1290.out | refine below_set ?_ GE1294.out) | exact HB.out)⟩
            ·
             replace c94 := Bool.eq_false_iff.mpr c94
             subst c94
             have H1 : (some false) = some r := by rw [if_neg (show ¬ (false = true) by decide)] at H; exact H
             clear H
             have H := H1
             clear H1
             obtain rfl := Option.some.inj H
             go_wp2
             go_ret
             exact ⟨by first | rfl | (simp [errW_none, errW_some] <;> rfl) | (simp [*, errW_none, errW_some] <;> rfl), by repeat (first | (with_reducible first | exact HB.out | apply below_alloc | apply pw_below_drewN | apply below_drew1 | refine below_set ?_ GE1290.out | refine below_set ?_ GE1294.out) | exact HB.out)⟩
           ·
            replace c93 := Bool.eq_false_iff.mpr c93
            subst c93
            have H1 : (some true) = some r := by rw [if_neg (show ¬ (false = true) by decide)] at H; exact H
            clear H
            have H := H1
            clear H1
            obtain rfl := Option.some.inj H
            go_wp2
            go_ret
            exact ⟨by first | rfl | (simp [errW_none, errW_some] <;> rfl) | (simp [*, errW_none, errW_some] <;> rfl), by repeat (first | (with_reducible first | exact HB.out | apply below_alloc | apply pw_below_drewN | apply below_drew1 | refine below_set ?_ GE1290.out | refine below_set ?_ GE1294.out) | exact HB.out)⟩

end Go.Proofs.Ytppojihmllmgnaa.F
