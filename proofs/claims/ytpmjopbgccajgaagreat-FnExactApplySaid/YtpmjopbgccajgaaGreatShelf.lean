/- The library contracts that are laid at this program: the kit's shelf, in plain words. No condition. -/
import Derived.Shelf.Sort.Plain
import Derived.Ground.Names2Prog
import Derived.Shelf.Slices.In.SortNone
import Derived.Shelf.SlSortCmp.WholeK
import Derived.Ground.SlsfProg
import Derived.Test.YtpmjopbgccajgaaGreatProg
namespace Go.Proofs
open Go.Shelf
def Tryz.lays189_ren : Go.Shelf.Ren := ⟨fun | 189 => 192 | 125 => 277 | 257 => 276 | 128 => 333 | 129 => 334 | 294 => 324 | 295 => 325 | 296 => 326 | 297 => 327 | 298 => 328 | 299 => 329 | 216 => 330 | 300 => 331 | 301 => 332 | 328 => 358 | 329 => 359 | 330 => 360 | 331 => 361 | 332 => 362 | 215 => 170 | 343 => 366 | n => n, fun | 28 => 24 | 3 => 3 | 46 => 294 | 0 => 0 | 51 => 336 | 53 => 338 | 4 => 4 | 183 => 329 | 182 => 328 | 131 => 333 | 5 => 5 | 9 => 9 | 218 => 356 | 222 => 360 | 228 => 364 | 229 => 365 | n => n, fun | n => n⟩
theorem Tryz.lays189 : Go.Proofs.Lays.n189 Tryz.prog Tryz.lays189_ren := {
  mixed := by kernel_rfl
  f125 := Tryz.func277.trans (congrArg some (by kernel_rfl))
  f128 := Tryz.func333.trans (congrArg some (by kernel_rfl))
  f129 := Tryz.func334.trans (congrArg some (by kernel_rfl))
  f189 := Tryz.func192.trans (congrArg some (by kernel_rfl))
  f215 := Tryz.func170.trans (congrArg some (by kernel_rfl))
  f216 := Tryz.func330.trans (congrArg some (by kernel_rfl))
  f257 := Tryz.func276.trans (congrArg some (by kernel_rfl))
  f294 := Tryz.func324.trans (congrArg some (by kernel_rfl))
  f295 := Tryz.func325.trans (congrArg some (by kernel_rfl))
  f296 := Tryz.func326.trans (congrArg some (by kernel_rfl))
  f297 := Tryz.func327.trans (congrArg some (by kernel_rfl))
  f298 := Tryz.func328.trans (congrArg some (by kernel_rfl))
  f299 := Tryz.func329.trans (congrArg some (by kernel_rfl))
  f300 := Tryz.func331.trans (congrArg some (by kernel_rfl))
  f301 := Tryz.func332.trans (congrArg some (by kernel_rfl))
  f328 := Tryz.func358.trans (congrArg some (by kernel_rfl))
  f329 := Tryz.func359.trans (congrArg some (by kernel_rfl))
  f330 := Tryz.func360.trans (congrArg some (by kernel_rfl))
  f331 := Tryz.func361.trans (congrArg some (by kernel_rfl))
  f332 := Tryz.func362.trans (congrArg some (by kernel_rfl))
  f343 := Tryz.func366.trans (congrArg some (by kernel_rfl))
  t0 := Tryz.underlying0
  a0 := Tryz.isAgg0
  z0 := Tryz.sizeOf0
  v0 := Tryz.zeroValue0
  t3 := Tryz.underlying3
  a3 := Tryz.isAgg3
  z3 := Tryz.sizeOf3
  v3 := Tryz.zeroValue3
  t4 := Tryz.underlying4
  a4 := Tryz.isAgg4
  z4 := Tryz.sizeOf4
  v4 := Tryz.zeroValue4
  t5 := Tryz.underlying5
  a5 := Tryz.isAgg5
  z5 := Tryz.sizeOf5
  v5 := Tryz.zeroValue5
  t9 := Tryz.underlying9
  a9 := Tryz.isAgg9
  z9 := Tryz.sizeOf9
  v9 := Tryz.zeroValue9
  t28 := Tryz.underlying24
  a28 := Tryz.isAgg24
  z28 := Tryz.sizeOf24
  v28 := Tryz.zeroValue24
  t46 := Tryz.underlying294
  a46 := Tryz.isAgg294
  z46 := Tryz.sizeOf294
  v46 := Tryz.zeroValue294
  t51 := Tryz.underlying336
  a51 := Tryz.isAgg336
  z51 := Tryz.sizeOf336
  v51 := Tryz.zeroValue336
  t53 := Tryz.underlying338
  a53 := Tryz.isAgg338
  z53 := Tryz.sizeOf338
  v53 := Tryz.zeroValue338
  t131 := Tryz.underlying333
  a131 := Tryz.isAgg333
  z131 := Tryz.sizeOf333
  v131 := Tryz.zeroValue333
  t182 := Tryz.underlying328
  a182 := Tryz.isAgg328
  z182 := Tryz.sizeOf328
  v182 := Tryz.zeroValue328
  t183 := Tryz.underlying329
  a183 := Tryz.isAgg329
  z183 := Tryz.sizeOf329
  v183 := Tryz.zeroValue329
  t218 := Tryz.underlying356
  a218 := Tryz.isAgg356
  z218 := Tryz.sizeOf356
  v218 := Tryz.zeroValue356
  t222 := Tryz.underlying360
  a222 := Tryz.isAgg360
  z222 := Tryz.sizeOf360
  v222 := Tryz.zeroValue360
  t228 := Tryz.underlying364
  a228 := Tryz.isAgg364
  z228 := Tryz.sizeOf364
  v228 := Tryz.zeroValue364
  t229 := Tryz.underlying365
  a229 := Tryz.isAgg365
  z229 := Tryz.sizeOf365
  v229 := Tryz.zeroValue365 }
open Go.Sort Go.RowKit in
theorem Tryz.slices_Sort_int (blk off cap : Nat) (zs : List Int) (w : World) (hH : Holds (Value.int .i64) w blk off zs.toArray) (hblk : blk < w.heap.size) (hsz : zs.length < 4611686018427387904) :
    Calls Tryz.prog 192 #[.slice (some ⟨blk, off, none⟩) zs.length cap] w fun e w' =>
      e = .returned (.tuple #[]) ∧ ∃ n os, w' = grow (putRow (Value.int .i64) (Sort.ahead w n) blk off (zs.mergeSort fun x y => decide (x ≤ y)).toArray) os := Any.slices_Sort_int Tryz.lays189 blk off cap zs w hH hblk hsz
open Go.RowKit Go.Sort in
/-- .. and plain. (LAID: no walk: one application.) -/
theorem Tryz.slices_Sort_int_none (p : Option Addr) (cap : Nat) (w : World) :
    Calls Tryz.prog 192 #[.slice p 0 cap] w fun e w' => e = .returned (.tuple #[]) ∧ w' = w := Any.slices_Sort_int_none Tryz.lays189 p cap w
def Tryz.l244_ren : Go.Shelf.Ren := ⟨fun | 6 => 244 | 15 => 277 | 14 => 299 | 28 => 333 | 29 => 334 | 20 => 339 | 21 => 340 | 22 => 341 | 23 => 342 | 24 => 343 | 25 => 344 | 26 => 345 | 27 => 346 | 46 => 363 | 47 => 359 | 48 => 360 | 49 => 364 | 50 => 365 | 57 => 367 | n => n, fun | 22 => 39 | 24 => 49 | 25 => 271 | 3 => 3 | 39 => 294 | 0 => 0 | 53 => 336 | 55 => 338 | 4 => 4 | 46 => 329 | 45 => 328 | 50 => 333 | 5 => 5 | 9 => 9 | 66 => 356 | 70 => 360 | 76 => 364 | 77 => 365 | n => n, fun | n => n⟩
theorem Tryz.l244 : Go.Proofs.SlLaysF0.n6 Tryz.prog Tryz.l244_ren := {
  mixed := by kernel_rfl
  f6 := ⟨Tryz.f244.name, by decide, Tryz.func244.trans (congrArg some (by kernel_rfl))⟩
  f14 := ⟨Tryz.f299.name, by decide, Tryz.func299.trans (congrArg some (by kernel_rfl))⟩
  f15 := Tryz.func277.trans (congrArg some (by kernel_rfl))
  f20 := ⟨Tryz.f339.name, by decide, Tryz.func339.trans (congrArg some (by kernel_rfl))⟩
  f21 := ⟨Tryz.f340.name, by decide, Tryz.func340.trans (congrArg some (by kernel_rfl))⟩
  f22 := ⟨Tryz.f341.name, by decide, Tryz.func341.trans (congrArg some (by kernel_rfl))⟩
  f23 := ⟨Tryz.f342.name, by decide, Tryz.func342.trans (congrArg some (by kernel_rfl))⟩
  f24 := ⟨Tryz.f343.name, by decide, Tryz.func343.trans (congrArg some (by kernel_rfl))⟩
  f25 := ⟨Tryz.f344.name, by decide, Tryz.func344.trans (congrArg some (by kernel_rfl))⟩
  f26 := ⟨Tryz.f345.name, by decide, Tryz.func345.trans (congrArg some (by kernel_rfl))⟩
  f27 := ⟨Tryz.f346.name, by decide, Tryz.func346.trans (congrArg some (by kernel_rfl))⟩
  f28 := Tryz.func333.trans (congrArg some (by kernel_rfl))
  f29 := Tryz.func334.trans (congrArg some (by kernel_rfl))
  f46 := ⟨Tryz.f363.name, by decide, Tryz.func363.trans (congrArg some (by kernel_rfl))⟩
  f47 := Tryz.func359.trans (congrArg some (by kernel_rfl))
  f48 := Tryz.func360.trans (congrArg some (by kernel_rfl))
  f49 := ⟨Tryz.f364.name, by decide, Tryz.func364.trans (congrArg some (by kernel_rfl))⟩
  f50 := ⟨Tryz.f365.name, by decide, Tryz.func365.trans (congrArg some (by kernel_rfl))⟩
  f57 := ⟨Tryz.f367.name, by decide, Tryz.func367.trans (congrArg some (by kernel_rfl))⟩
  t0 := Tryz.underlying0
  a0 := Tryz.isAgg0
  z0 := Tryz.sizeOf0
  v0 := Tryz.zeroValue0
  t3 := Tryz.underlying3
  a3 := Tryz.isAgg3
  z3 := Tryz.sizeOf3
  v3 := Tryz.zeroValue3
  t4 := Tryz.underlying4
  a4 := Tryz.isAgg4
  z4 := Tryz.sizeOf4
  v4 := Tryz.zeroValue4
  t5 := Tryz.underlying5
  a5 := Tryz.isAgg5
  z5 := Tryz.sizeOf5
  v5 := Tryz.zeroValue5
  t9 := Tryz.underlying9
  a9 := Tryz.isAgg9
  z9 := Tryz.sizeOf9
  v9 := Tryz.zeroValue9
  t22 := Tryz.underlying39
  a22 := Tryz.isAgg39
  z22 := Tryz.sizeOf39
  v22 := Tryz.zeroValue39
  t25 := Tryz.underlying271
  a25 := Tryz.isAgg271
  z25 := Tryz.sizeOf271
  v25 := Tryz.zeroValue271
  t39 := Tryz.underlying294
  a39 := Tryz.isAgg294
  z39 := Tryz.sizeOf294
  v39 := Tryz.zeroValue294
  t45 := Tryz.underlying328
  a45 := Tryz.isAgg328
  z45 := Tryz.sizeOf328
  v45 := Tryz.zeroValue328
  t46 := Tryz.underlying329
  a46 := Tryz.isAgg329
  z46 := Tryz.sizeOf329
  v46 := Tryz.zeroValue329
  t50 := Tryz.underlying333
  a50 := Tryz.isAgg333
  z50 := Tryz.sizeOf333
  v50 := Tryz.zeroValue333
  t53 := Tryz.underlying336
  a53 := Tryz.isAgg336
  z53 := Tryz.sizeOf336
  v53 := Tryz.zeroValue336
  t55 := Tryz.underlying338
  a55 := Tryz.isAgg338
  z55 := Tryz.sizeOf338
  v55 := Tryz.zeroValue338
  t66 := Tryz.underlying356
  a66 := Tryz.isAgg356
  z66 := Tryz.sizeOf356
  v66 := Tryz.zeroValue356
  t70 := Tryz.underlying360
  a70 := Tryz.isAgg360
  z70 := Tryz.sizeOf360
  v70 := Tryz.zeroValue360
  t76 := Tryz.underlying364
  a76 := Tryz.isAgg364
  z76 := Tryz.sizeOf364
  v76 := Tryz.zeroValue364
  t77 := Tryz.underlying365
  a77 := Tryz.isAgg365
  z77 := Tryz.sizeOf365
  v77 := Tryz.zeroValue365 }
end Go.Proofs
