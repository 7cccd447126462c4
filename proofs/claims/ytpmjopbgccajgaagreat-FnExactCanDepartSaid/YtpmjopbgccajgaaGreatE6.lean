/- The pure functions are what the evaluator computes of the program's code. By a program of this session. No condition. -/
import Derived.Test.YtpmjopbgccajgaaGreatD
import Derived.Test.YtpmjopbgccajgaaGreatProg
import Derived.KernelRfl
namespace Go.Proofs.YtpmjopbgccajgaaGreat.Eng
open Go.Proofs
set_option linter.unusedVariables false
set_option maxRecDepth 100000 in
theorem laws_eqItem.eq (k:Nat) (x0:(Int×Int×Int×Unit)) (x1:(Int×Int×Int×Unit)):evFn tabO false [] [] Tryz.f286 laws_eqItem.sig k (x0,x1,())=laws_eqItem.f k x0 x1:=by kernel_rfl
set_option maxRecDepth 100000 in
theorem laws_eqItemS.eq (k:Nat) (x0:List (Int×Int×Int×Unit)) (x1:List (Int×Int×Int×Unit)):evFn tabO false [(286,.sig laws_eqItem.sig)] [⟨9,[],[⟨.slot 5,⟨false,0⟩,(.int .i64)⟩]⟩] Tryz.f208 laws_eqItemS.sig k (x0,x1,())=laws_eqItemS.f k x0 x1:=by kernel_rfl
set_option maxRecDepth 100000 in
theorem laws_eqBelt.eq (k:Nat) (x0:(Int×Int×Bool×List (Int×Int×Int×Unit)×Unit)) (x1:(Int×Int×Bool×List (Int×Int×Int×Unit)×Unit)):evFn tabO false [(208,.sig laws_eqItemS.sig)] [] Tryz.f99 laws_eqBelt.sig k (x0,x1,())=laws_eqBelt.f k x0 x1:=by kernel_rfl
set_option maxRecDepth 100000 in
theorem laws_eqChute.eq (k:Nat) (x0:(Int×Int×List (Int×Unit)×Unit)) (x1:(Int×Int×List (Int×Unit)×Unit)):evFn tabO false [(207,.sig laws_eqIntS.sig)] [] Tryz.f287 laws_eqChute.sig k (x0,x1,())=laws_eqChute.f k x0 x1:=by kernel_rfl
set_option maxRecDepth 100000 in
theorem laws_eqChuteS.eq (k:Nat) (x0:List (Int×Int×List (Int×Unit)×Unit)) (x1:List (Int×Int×List (Int×Unit)×Unit)):evFn tabO false [(287,.sig laws_eqChute.sig)] [⟨9,[],[⟨.slot 5,⟨false,0⟩,(.int .i64)⟩]⟩] Tryz.f209 laws_eqChuteS.sig k (x0,x1,())=laws_eqChuteS.f k x0 x1:=by kernel_rfl
set_option maxRecDepth 100000 in
theorem laws_eqWant.eq (k:Nat) (x0:(Int×List (Int×Unit)×Unit)) (x1:(Int×List (Int×Unit)×Unit)):evFn tabO false [(207,.sig laws_eqIntS.sig)] [] Tryz.f288 laws_eqWant.sig k (x0,x1,())=laws_eqWant.f k x0 x1:=by kernel_rfl
set_option maxRecDepth 100000 in
theorem laws_eqWantS.eq (k:Nat) (x0:List (Int×List (Int×Unit)×Unit)) (x1:List (Int×List (Int×Unit)×Unit)):evFn tabO false [(288,.sig laws_eqWant.sig)] [⟨9,[],[⟨.slot 5,⟨false,0⟩,(.int .i64)⟩]⟩] Tryz.f210 laws_eqWantS.sig k (x0,x1,())=laws_eqWantS.f k x0 x1:=by kernel_rfl
set_option maxRecDepth 100000 in
theorem laws_eqLoop.eq (k:Nat) (x0:(List (Int×Unit)×Int×List (Int×Int×List (Int×Unit)×Unit)×List (Int×List (Int×Unit)×Unit)×Unit)) (x1:(List (Int×Unit)×Int×List (Int×Int×List (Int×Unit)×Unit)×List (Int×List (Int×Unit)×Unit)×Unit)):evFn tabO false [(207,.sig laws_eqIntS.sig),(209,.sig laws_eqChuteS.sig),(210,.sig laws_eqWantS.sig)] [] Tryz.f100 laws_eqLoop.sig k (x0,x1,())=laws_eqLoop.f k x0 x1:=by kernel_rfl
set_option maxRecDepth 100000 in
theorem laws_eqKept.eq (k:Nat) (x0:(Int×Int×Unit)) (x1:(Int×Int×Unit)):evFn tabO false [] [] Tryz.f336 laws_eqKept.sig k (x0,x1,())=laws_eqKept.f k x0 x1:=by kernel_rfl
set_option maxRecDepth 100000 in
theorem laws_eqKeptS.eq (k:Nat) (x0:List (Int×Int×Unit)) (x1:List (Int×Int×Unit)):evFn tabO false [(336,.sig laws_eqKept.sig)] [⟨9,[],[⟨.slot 5,⟨false,0⟩,(.int .i64)⟩]⟩] Tryz.f289 laws_eqKeptS.sig k (x0,x1,())=laws_eqKeptS.f k x0 x1:=by kernel_rfl
set_option maxRecDepth 100000 in
theorem laws_eqKeptSS.eq (k:Nat) (x0:List (List (Int×Int×Unit)×Unit)) (x1:List (List (Int×Int×Unit)×Unit)):evFn tabO false [(289,.sig laws_eqKeptS.sig)] [⟨9,[],[⟨.slot 5,⟨false,0⟩,(.int .i64)⟩]⟩] Tryz.f211 laws_eqKeptSS.sig k (x0,x1,())=laws_eqKeptSS.f k x0 x1:=by kernel_rfl
set_option maxRecDepth 100000 in
theorem laws_eqStore.eq (k:Nat) (x0:(Int×List (List (Int×Int×Unit)×Unit)×Unit)) (x1:(Int×List (List (Int×Int×Unit)×Unit)×Unit)):evFn tabO false [(211,.sig laws_eqKeptSS.sig)] [] Tryz.f101 laws_eqStore.sig k (x0,x1,())=laws_eqStore.f k x0 x1:=by kernel_rfl
set_option maxRecDepth 100000 in
theorem laws_eqNote.eq (k:Nat) (x0:(Int×Int×Int×Int×Int×Unit)) (x1:(Int×Int×Int×Int×Int×Unit)):evFn tabO false [] [] Tryz.f212 laws_eqNote.sig k (x0,x1,())=laws_eqNote.f k x0 x1:=by kernel_rfl
set_option maxRecDepth 100000 in
theorem laws_eqNoteS.eq (k:Nat) (x0:List (Int×Int×Int×Int×Int×Unit)) (x1:List (Int×Int×Int×Int×Int×Unit)):evFn tabO false [(212,.sig laws_eqNote.sig)] [⟨9,[],[⟨.slot 5,⟨false,0⟩,(.int .i64)⟩]⟩] Tryz.f102 laws_eqNoteS.sig k (x0,x1,())=laws_eqNoteS.f k x0 x1:=by kernel_rfl
set_option maxRecDepth 100000 in
theorem laws_eqFlight.eq (k:Nat) (x0:(Int×Int×Int×Bool×Int×Unit)) (x1:(Int×Int×Int×Bool×Int×Unit)):evFn tabO false [] [] Tryz.f213 laws_eqFlight.sig k (x0,x1,())=laws_eqFlight.f k x0 x1:=by kernel_rfl
set_option maxRecDepth 100000 in
theorem laws_eqFlightS.eq (k:Nat) (x0:List (Int×Int×Int×Bool×Int×Unit)) (x1:List (Int×Int×Int×Bool×Int×Unit)):evFn tabO false [(213,.sig laws_eqFlight.sig)] [⟨9,[],[⟨.slot 5,⟨false,0⟩,(.int .i64)⟩]⟩] Tryz.f103 laws_eqFlightS.sig k (x0,x1,())=laws_eqFlightS.f k x0 x1:=by kernel_rfl
set_option maxRecDepth 100000 in
theorem laws_eqTag.eq (k:Nat) (x0:(Int×Int×Int×Unit)) (x1:(Int×Int×Int×Unit)):evFn tabO false [] [] Tryz.f235 laws_eqTag.sig k (x0,x1,())=laws_eqTag.f k x0 x1:=by kernel_rfl
set_option maxRecDepth 100000 in
theorem laws_eqScreen.eq (k:Nat) (x0:(Int×Int×Int×Unit)) (x1:(Int×Int×Int×Unit)):evFn tabO false [] [] Tryz.f290 laws_eqScreen.sig k (x0,x1,())=laws_eqScreen.f k x0 x1:=by kernel_rfl
set_option maxRecDepth 100000 in
theorem laws_eqCase.eq (k:Nat) (x0:(Int×Int×Int×Int×Int×Int×Int×Int×Int×Int×Unit)) (x1:(Int×Int×Int×Int×Int×Int×Int×Int×Int×Int×Unit)):evFn tabO false [(235,.sig laws_eqTag.sig),(290,.sig laws_eqScreen.sig)] [] Tryz.f214 laws_eqCase.sig k (x0,x1,())=laws_eqCase.f k x0 x1:=by kernel_rfl
set_option maxRecDepth 100000 in
theorem laws_eqCaseS.eq (k:Nat) (x0:List (Int×Int×Int×Int×Int×Int×Int×Int×Int×Int×Unit)) (x1:List (Int×Int×Int×Int×Int×Int×Int×Int×Int×Int×Unit)):evFn tabO false [(214,.sig laws_eqCase.sig)] [⟨9,[],[⟨.slot 5,⟨false,0⟩,(.int .i64)⟩]⟩] Tryz.f104 laws_eqCaseS.sig k (x0,x1,())=laws_eqCaseS.f k x0 x1:=by kernel_rfl
set_option maxRecDepth 100000 in
theorem laws_eqHall.eq (k:Nat) (x0:(Int×List (Int×Unit)×Int×Int×Int×Int×Bool×List (Int×Int×Int×Unit)×List (Int×Unit)×Int×List (Int×Int×List (Int×Unit)×Unit)×List (Int×List (Int×Unit)×Unit)×Int×List (List (Int×Int×Unit)×Unit)×List (Int×Int×Int×Int×Int×Unit)×List (Int×Int×Int×Bool×Int×Unit)×List (Int×Int×Int×Int×Int×Int×Int×Int×Int×Int×Unit)×Unit)) (x1:(Int×List (Int×Unit)×Int×Int×Int×Int×Bool×List (Int×Int×Int×Unit)×List (Int×Unit)×Int×List (Int×Int×List (Int×Unit)×Unit)×List (Int×List (Int×Unit)×Unit)×Int×List (List (Int×Int×Unit)×Unit)×List (Int×Int×Int×Int×Int×Unit)×List (Int×Int×Int×Bool×Int×Unit)×List (Int×Int×Int×Int×Int×Int×Int×Int×Int×Int×Unit)×Unit)):evFn tabO false [(97,.sig laws_eqPolicy.sig),(98,.sig laws_eqLimits.sig),(99,.sig laws_eqBelt.sig),(100,.sig laws_eqLoop.sig),(101,.sig laws_eqStore.sig),(102,.sig laws_eqNoteS.sig),(103,.sig laws_eqFlightS.sig),(104,.sig laws_eqCaseS.sig)] [] Tryz.f26 laws_eqHall.sig k (x0,x1,())=laws_eqHall.f k x0 x1:=by kernel_rfl
end Go.Proofs.YtpmjopbgccajgaaGreat.Eng
