/- The pure functions are what the evaluator computes of the program's code. By a program of this session. No condition. -/
import Derived.Test.YtcfbjloblbhdhaaGreatD
import Derived.Test.YtcfbjloblbhdhaaGreatProg
import Derived.KernelRfl
namespace Go.Proofs.YtcfbjloblbhdhaaGreat.Eng
open Go.Proofs
set_option linter.unusedVariables false
set_option maxRecDepth 100000 in
theorem slices_Clone_impl_Kept.eq (k:Nat) (x0:List (Int×Int×Unit)):evFn tabO false [] [] Tryz.f162 slices_Clone_impl_Kept.sig k (x0,())=slices_Clone_impl_Kept.f k x0:=by kernel_rfl
set_option maxRecDepth 100000 in
theorem impl_copyStore.eq (k:Nat) (x0:(Int×List (List (Int×Int×Unit)×Unit)×Unit)):evFn tabO false [(162,.sig slices_Clone_impl_Kept.sig)] [⟨7,[],[⟨.cell 2 1,⟨false,2⟩,(.slice K90)⟩,⟨.slot 12,⟨false,0⟩,(.int .i64)⟩]⟩] Tryz.f90 impl_copyStore.sig k (x0,())=impl_copyStore.f k x0:=by kernel_rfl
set_option maxRecDepth 100000 in
theorem slices_Clone_impl_Note.eq (k:Nat) (x0:List (Int×Int×Int×Int×Int×Unit)):evFn tabO false [] [] Tryz.f91 slices_Clone_impl_Note.sig k (x0,())=slices_Clone_impl_Note.f k x0:=by kernel_rfl
set_option maxRecDepth 100000 in
theorem slices_Clone_impl_Flight.eq (k:Nat) (x0:List (Int×Int×Int×Bool×Int×Unit)):evFn tabO false [] [] Tryz.f92 slices_Clone_impl_Flight.sig k (x0,())=slices_Clone_impl_Flight.f k x0:=by kernel_rfl
set_option maxRecDepth 100000 in
theorem slices_Clone_impl_Case.eq (k:Nat) (x0:List (Int×Int×Int×Int×Int×Int×Int×Int×Int×Int×Unit)):evFn tabO false [] [] Tryz.f93 slices_Clone_impl_Case.sig k (x0,())=slices_Clone_impl_Case.f k x0:=by kernel_rfl
set_option maxRecDepth 100000 in
theorem impl_copyHall.eq (k:Nat) (x0:(Int×List (Int×Unit)×Int×Int×Int×Int×Bool×List (Int×Int×Int×Unit)×List (Int×Unit)×Int×List (Int×Int×List (Int×Unit)×Unit)×List (Int×List (Int×Unit)×Unit)×Int×List (List (Int×Int×Unit)×Unit)×List (Int×Int×Int×Int×Int×Unit)×List (Int×Int×Int×Bool×Int×Unit)×List (Int×Int×Int×Int×Int×Int×Int×Int×Int×Int×Unit)×Unit)):evFn tabO false [(74,.sig slices_Clone_int_int.sig),(88,.sig impl_copyBelt.sig),(89,.sig impl_copyLoop.sig),(90,.sig impl_copyStore.sig),(91,.sig slices_Clone_impl_Note.sig),(92,.sig slices_Clone_impl_Flight.sig),(93,.sig slices_Clone_impl_Case.sig)] [] Tryz.f26 impl_copyHall.sig k (x0,())=impl_copyHall.f k x0:=by kernel_rfl
set_option maxRecDepth 100000 in
theorem impl_NewHall.eq (k:Nat) (x0:(List (Int×Unit)×Unit)) (x1:(Int×Int×Unit)) (x2:(Int×Int×Bool×List (Int×Int×Int×Unit)×Unit)) (x3:(List (Int×Unit)×Int×List (Int×Int×List (Int×Unit)×Unit)×List (Int×List (Int×Unit)×Unit)×Unit)) (x4:(Int×List (List (Int×Int×Unit)×Unit)×Unit)) (x5:List (Int×Int×Int×Bool×Int×Unit)):evFn tabO false [(21,.sig impl_HallOk.sig),(26,.sig impl_copyHall.sig)] [] Tryz.f11 impl_NewHall.sig k (x0,x1,x2,x3,x4,x5,())=impl_NewHall.f k x0 x1 x2 x3 x4 x5:=by kernel_rfl
set_option maxRecDepth 100000 in
theorem spec_NewHall.eq (k:Nat) (x0:(List (Int×Unit)×Unit)) (x1:(Int×Int×Unit)) (x2:(Int×Int×Bool×List (Int×Int×Int×Unit)×Unit)) (x3:(List (Int×Unit)×Int×List (Int×Int×List (Int×Unit)×Unit)×List (Int×List (Int×Unit)×Unit)×Unit)) (x4:(Int×List (List (Int×Int×Unit)×Unit)×Unit)) (x5:List (Int×Int×Int×Bool×Int×Unit)):evFn tabO false [(23,.sig spec_HallOk.sig),(27,.sig spec_l09Copy.sig)] [] Tryz.f12 spec_NewHall.sig k (x0,x1,x2,x3,x4,x5,())=spec_NewHall.f k x0 x1 x2 x3 x4 x5:=by kernel_rfl
set_option maxRecDepth 100000 in
theorem laws_sameItems.eq (k:Nat) (x0:List (Int×Int×Int×Unit)) (x1:List (Int×Int×Int×Unit)):evFn tabO false [] [⟨9,[],[⟨.slot 5,⟨false,0⟩,(.int .i64)⟩]⟩] Tryz.f97 laws_sameItems.sig k (x0,x1,())=laws_sameItems.f k x0 x1:=by kernel_rfl
set_option maxRecDepth 100000 in
theorem laws_sameBelt.eq (k:Nat) (x0:(Int×Int×Bool×List (Int×Int×Int×Unit)×Unit)) (x1:(Int×Int×Bool×List (Int×Int×Int×Unit)×Unit)):evFn tabO false [(97,.sig laws_sameItems.sig)] [] Tryz.f28 laws_sameBelt.sig k (x0,x1,())=laws_sameBelt.f k x0 x1:=by kernel_rfl
set_option maxRecDepth 100000 in
theorem laws_sameLoop.eq (k:Nat) (x0:(List (Int×Unit)×Int×List (Int×Int×List (Int×Unit)×Unit)×List (Int×List (Int×Unit)×Unit)×Unit)) (x1:(List (Int×Unit)×Int×List (Int×Int×List (Int×Unit)×Unit)×List (Int×List (Int×Unit)×Unit)×Unit)):evFn tabO false [(8,.sig laws_sameInts.sig)] [⟨9,[],[⟨.slot 5,⟨false,0⟩,(.int .i64)⟩]⟩,⟨19,[],[⟨.slot 6,⟨false,0⟩,(.int .i64)⟩]⟩] Tryz.f29 laws_sameLoop.sig k (x0,x1,())=laws_sameLoop.f k x0 x1:=by kernel_rfl
set_option maxRecDepth 100000 in
theorem laws_sameKept.eq (k:Nat) (x0:List (Int×Int×Unit)) (x1:List (Int×Int×Unit)):evFn tabO false [] [⟨9,[],[⟨.slot 5,⟨false,0⟩,(.int .i64)⟩]⟩] Tryz.f98 laws_sameKept.sig k (x0,x1,())=laws_sameKept.f k x0 x1:=by kernel_rfl
set_option maxRecDepth 100000 in
theorem laws_sameStore.eq (k:Nat) (x0:(Int×List (List (Int×Int×Unit)×Unit)×Unit)) (x1:(Int×List (List (Int×Int×Unit)×Unit)×Unit)):evFn tabO false [(98,.sig laws_sameKept.sig)] [⟨9,[],[⟨.slot 5,⟨false,0⟩,(.int .i64)⟩]⟩] Tryz.f30 laws_sameStore.sig k (x0,x1,())=laws_sameStore.f k x0 x1:=by kernel_rfl
set_option maxRecDepth 100000 in
theorem laws_sameNotes.eq (k:Nat) (x0:List (Int×Int×Int×Int×Int×Unit)) (x1:List (Int×Int×Int×Int×Int×Unit)):evFn tabO false [] [⟨9,[],[⟨.slot 5,⟨false,0⟩,(.int .i64)⟩]⟩] Tryz.f31 laws_sameNotes.sig k (x0,x1,())=laws_sameNotes.f k x0 x1:=by kernel_rfl
set_option maxRecDepth 100000 in
theorem laws_sameFlights.eq (k:Nat) (x0:List (Int×Int×Int×Bool×Int×Unit)) (x1:List (Int×Int×Int×Bool×Int×Unit)):evFn tabO false [] [⟨9,[],[⟨.slot 5,⟨false,0⟩,(.int .i64)⟩]⟩] Tryz.f32 laws_sameFlights.sig k (x0,x1,())=laws_sameFlights.f k x0 x1:=by kernel_rfl
set_option maxRecDepth 100000 in
theorem laws_sameCases.eq (k:Nat) (x0:List (Int×Int×Int×Int×Int×Int×Int×Int×Int×Int×Unit)) (x1:List (Int×Int×Int×Int×Int×Int×Int×Int×Int×Int×Unit)):evFn tabO false [] [⟨9,[],[⟨.slot 5,⟨false,0⟩,(.int .i64)⟩]⟩] Tryz.f33 laws_sameCases.sig k (x0,x1,())=laws_sameCases.f k x0 x1:=by kernel_rfl
set_option maxRecDepth 100000 in
theorem laws_sameHall.eq (k:Nat) (x0:(Int×List (Int×Unit)×Int×Int×Int×Int×Bool×List (Int×Int×Int×Unit)×List (Int×Unit)×Int×List (Int×Int×List (Int×Unit)×Unit)×List (Int×List (Int×Unit)×Unit)×Int×List (List (Int×Int×Unit)×Unit)×List (Int×Int×Int×Int×Int×Unit)×List (Int×Int×Int×Bool×Int×Unit)×List (Int×Int×Int×Int×Int×Int×Int×Int×Int×Int×Unit)×Unit)) (x1:(Int×List (Int×Unit)×Int×Int×Int×Int×Bool×List (Int×Int×Int×Unit)×List (Int×Unit)×Int×List (Int×Int×List (Int×Unit)×Unit)×List (Int×List (Int×Unit)×Unit)×Int×List (List (Int×Int×Unit)×Unit)×List (Int×Int×Int×Int×Int×Unit)×List (Int×Int×Int×Bool×Int×Unit)×List (Int×Int×Int×Int×Int×Int×Int×Int×Int×Int×Unit)×Unit)):evFn tabO false [(8,.sig laws_sameInts.sig),(28,.sig laws_sameBelt.sig),(29,.sig laws_sameLoop.sig),(30,.sig laws_sameStore.sig),(31,.sig laws_sameNotes.sig),(32,.sig laws_sameFlights.sig),(33,.sig laws_sameCases.sig)] [] Tryz.f13 laws_sameHall.sig k (x0,x1,())=laws_sameHall.f k x0 x1:=by kernel_rfl
end Go.Proofs.YtcfbjloblbhdhaaGreat.Eng
