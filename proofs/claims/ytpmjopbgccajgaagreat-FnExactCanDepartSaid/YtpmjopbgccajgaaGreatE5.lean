/- The pure functions are what the evaluator computes of the program's code. By a program of this session. No condition. -/
import Derived.Test.YtpmjopbgccajgaaGreatD
import Derived.Test.YtpmjopbgccajgaaGreatProg
import Derived.KernelRfl
namespace Go.Proofs.YtpmjopbgccajgaaGreat.Eng
open Go.Proofs
set_option linter.unusedVariables false
set_option maxRecDepth 100000 in
theorem laws_szPolicy.eq (k:Nat) (x0:(List (Int×Unit)×Unit)) (x1:Int):evFn tabO false [(195,.sig laws_szIntS.sig)] [] Tryz.f82 laws_szPolicy.sig k (x0,x1,())=laws_szPolicy.f k x0 x1:=by kernel_rfl
set_option maxRecDepth 100000 in
theorem laws_szItemS.eq (k:Nat) (x0:List (Int×Int×Int×Unit)) (x1:Int):evFn tabO false [] [] Tryz.f196 laws_szItemS.sig k (x0,x1,())=laws_szItemS.f k x0 x1:=by kernel_rfl
set_option maxRecDepth 100000 in
theorem laws_szBelt.eq (k:Nat) (x0:(Int×Int×Bool×List (Int×Int×Int×Unit)×Unit)) (x1:Int):evFn tabO false [(196,.sig laws_szItemS.sig)] [] Tryz.f83 laws_szBelt.sig k (x0,x1,())=laws_szBelt.f k x0 x1:=by kernel_rfl
set_option maxRecDepth 100000 in
theorem laws_szChute.eq (k:Nat) (x0:(Int×Int×List (Int×Unit)×Unit)) (x1:Int):evFn tabO false [(195,.sig laws_szIntS.sig)] [] Tryz.f278 laws_szChute.sig k (x0,x1,())=laws_szChute.f k x0 x1:=by kernel_rfl
set_option maxRecDepth 100000 in
theorem laws_szChuteS.eq (k:Nat) (x0:List (Int×Int×List (Int×Unit)×Unit)) (x1:Int):evFn tabO false [(278,.sig laws_szChute.sig)] [⟨11,[],[⟨.slot 1,⟨false,0⟩,(.int .i64)⟩,⟨.slot 5,⟨false,0⟩,(.int .i64)⟩]⟩] Tryz.f197 laws_szChuteS.sig k (x0,x1,())=laws_szChuteS.f k x0 x1:=by kernel_rfl
set_option maxRecDepth 100000 in
theorem laws_szWant.eq (k:Nat) (x0:(Int×List (Int×Unit)×Unit)) (x1:Int):evFn tabO false [(195,.sig laws_szIntS.sig)] [] Tryz.f279 laws_szWant.sig k (x0,x1,())=laws_szWant.f k x0 x1:=by kernel_rfl
set_option maxRecDepth 100000 in
theorem laws_szWantS.eq (k:Nat) (x0:List (Int×List (Int×Unit)×Unit)) (x1:Int):evFn tabO false [(279,.sig laws_szWant.sig)] [⟨11,[],[⟨.slot 1,⟨false,0⟩,(.int .i64)⟩,⟨.slot 5,⟨false,0⟩,(.int .i64)⟩]⟩] Tryz.f198 laws_szWantS.sig k (x0,x1,())=laws_szWantS.f k x0 x1:=by kernel_rfl
set_option maxRecDepth 100000 in
theorem laws_szLoop.eq (k:Nat) (x0:(List (Int×Unit)×Int×List (Int×Int×List (Int×Unit)×Unit)×List (Int×List (Int×Unit)×Unit)×Unit)) (x1:Int):evFn tabO false [(195,.sig laws_szIntS.sig),(197,.sig laws_szChuteS.sig),(198,.sig laws_szWantS.sig)] [] Tryz.f84 laws_szLoop.sig k (x0,x1,())=laws_szLoop.f k x0 x1:=by kernel_rfl
set_option maxRecDepth 100000 in
theorem laws_szKeptS.eq (k:Nat) (x0:List (Int×Int×Unit)) (x1:Int):evFn tabO false [] [] Tryz.f280 laws_szKeptS.sig k (x0,x1,())=laws_szKeptS.f k x0 x1:=by kernel_rfl
set_option maxRecDepth 100000 in
theorem laws_szKeptSS.eq (k:Nat) (x0:List (List (Int×Int×Unit)×Unit)) (x1:Int):evFn tabO false [(280,.sig laws_szKeptS.sig)] [⟨11,[],[⟨.slot 1,⟨false,0⟩,(.int .i64)⟩,⟨.slot 5,⟨false,0⟩,(.int .i64)⟩]⟩] Tryz.f199 laws_szKeptSS.sig k (x0,x1,())=laws_szKeptSS.f k x0 x1:=by kernel_rfl
set_option maxRecDepth 100000 in
theorem laws_szStore.eq (k:Nat) (x0:(Int×List (List (Int×Int×Unit)×Unit)×Unit)) (x1:Int):evFn tabO false [(199,.sig laws_szKeptSS.sig)] [] Tryz.f85 laws_szStore.sig k (x0,x1,())=laws_szStore.f k x0 x1:=by kernel_rfl
set_option maxRecDepth 100000 in
theorem laws_szNoteS.eq (k:Nat) (x0:List (Int×Int×Int×Int×Int×Unit)) (x1:Int):evFn tabO false [] [] Tryz.f86 laws_szNoteS.sig k (x0,x1,())=laws_szNoteS.f k x0 x1:=by kernel_rfl
set_option maxRecDepth 100000 in
theorem laws_szFlightS.eq (k:Nat) (x0:List (Int×Int×Int×Bool×Int×Unit)) (x1:Int):evFn tabO false [] [] Tryz.f87 laws_szFlightS.sig k (x0,x1,())=laws_szFlightS.f k x0 x1:=by kernel_rfl
set_option maxRecDepth 100000 in
theorem laws_szCaseS.eq (k:Nat) (x0:List (Int×Int×Int×Int×Int×Int×Int×Int×Int×Int×Unit)) (x1:Int):evFn tabO false [] [] Tryz.f88 laws_szCaseS.sig k (x0,x1,())=laws_szCaseS.f k x0 x1:=by kernel_rfl
set_option maxRecDepth 100000 in
theorem laws_szHall.eq (k:Nat) (x0:(Int×List (Int×Unit)×Int×Int×Int×Int×Bool×List (Int×Int×Int×Unit)×List (Int×Unit)×Int×List (Int×Int×List (Int×Unit)×Unit)×List (Int×List (Int×Unit)×Unit)×Int×List (List (Int×Int×Unit)×Unit)×List (Int×Int×Int×Int×Int×Unit)×List (Int×Int×Int×Bool×Int×Unit)×List (Int×Int×Int×Int×Int×Int×Int×Int×Int×Int×Unit)×Unit)) (x1:Int):evFn tabO false [(82,.sig laws_szPolicy.sig),(83,.sig laws_szBelt.sig),(84,.sig laws_szLoop.sig),(85,.sig laws_szStore.sig),(86,.sig laws_szNoteS.sig),(87,.sig laws_szFlightS.sig),(88,.sig laws_szCaseS.sig)] [] Tryz.f24 laws_szHall.sig k (x0,x1,())=laws_szHall.f k x0 x1:=by kernel_rfl
set_option maxRecDepth 100000 in
theorem laws_toIntS.eq (k:Nat) (x0:List (Int×Unit)):evFn tabO false [] [⟨7,[],[⟨.root 0,⟨false,2⟩,(.slice K2)⟩,⟨.slot 4,⟨false,0⟩,(.int .i64)⟩]⟩] Tryz.f200 laws_toIntS.sig k (x0,())=laws_toIntS.f k x0:=by kernel_rfl
set_option maxRecDepth 100000 in
theorem laws_toPolicy.eq (k:Nat) (x0:(List (Int×Unit)×Unit)):evFn tabO false [(200,.sig laws_toIntS.sig)] [] Tryz.f89 laws_toPolicy.sig k (x0,())=laws_toPolicy.f k x0:=by kernel_rfl
set_option maxRecDepth 100000 in
theorem laws_toLimits.eq (k:Nat) (x0:(Int×Int×Unit)):evFn tabO false [] [] Tryz.f90 laws_toLimits.sig k (x0,())=laws_toLimits.f k x0:=by kernel_rfl
set_option maxRecDepth 100000 in
theorem laws_toItem.eq (k:Nat) (x0:(Int×Int×Int×Unit)):evFn tabO false [] [] Tryz.f281 laws_toItem.sig k (x0,())=laws_toItem.f k x0:=by kernel_rfl
set_option maxRecDepth 100000 in
theorem laws_toItemS.eq (k:Nat) (x0:List (Int×Int×Int×Unit)):evFn tabO false [(281,.sig laws_toItem.sig)] [⟨7,[],[⟨.root 0,⟨false,2⟩,(.slice K46)⟩,⟨.slot 4,⟨false,0⟩,(.int .i64)⟩]⟩] Tryz.f201 laws_toItemS.sig k (x0,())=laws_toItemS.f k x0:=by kernel_rfl
set_option maxRecDepth 100000 in
theorem laws_toBelt.eq (k:Nat) (x0:(Int×Int×Bool×List (Int×Int×Int×Unit)×Unit)):evFn tabO false [(201,.sig laws_toItemS.sig)] [] Tryz.f91 laws_toBelt.sig k (x0,())=laws_toBelt.f k x0:=by kernel_rfl
set_option maxRecDepth 100000 in
theorem laws_toChute.eq (k:Nat) (x0:(Int×Int×List (Int×Unit)×Unit)):evFn tabO false [(200,.sig laws_toIntS.sig)] [] Tryz.f282 laws_toChute.sig k (x0,())=laws_toChute.f k x0:=by kernel_rfl
set_option maxRecDepth 100000 in
theorem laws_toChuteS.eq (k:Nat) (x0:List (Int×Int×List (Int×Unit)×Unit)):evFn tabO false [(282,.sig laws_toChute.sig)] [⟨7,[],[⟨.root 0,⟨false,2⟩,(.slice K64)⟩,⟨.slot 4,⟨false,0⟩,(.int .i64)⟩]⟩] Tryz.f202 laws_toChuteS.sig k (x0,())=laws_toChuteS.f k x0:=by kernel_rfl
set_option maxRecDepth 100000 in
theorem laws_toWant.eq (k:Nat) (x0:(Int×List (Int×Unit)×Unit)):evFn tabO false [(200,.sig laws_toIntS.sig)] [] Tryz.f283 laws_toWant.sig k (x0,())=laws_toWant.f k x0:=by kernel_rfl
set_option maxRecDepth 100000 in
theorem laws_toWantS.eq (k:Nat) (x0:List (Int×List (Int×Unit)×Unit)):evFn tabO false [(283,.sig laws_toWant.sig)] [⟨7,[],[⟨.root 0,⟨false,2⟩,(.slice K204)⟩,⟨.slot 4,⟨false,0⟩,(.int .i64)⟩]⟩] Tryz.f203 laws_toWantS.sig k (x0,())=laws_toWantS.f k x0:=by kernel_rfl
set_option maxRecDepth 100000 in
theorem laws_toLoop.eq (k:Nat) (x0:(List (Int×Unit)×Int×List (Int×Int×List (Int×Unit)×Unit)×List (Int×List (Int×Unit)×Unit)×Unit)):evFn tabO false [(200,.sig laws_toIntS.sig),(202,.sig laws_toChuteS.sig),(203,.sig laws_toWantS.sig)] [] Tryz.f92 laws_toLoop.sig k (x0,())=laws_toLoop.f k x0:=by kernel_rfl
set_option maxRecDepth 100000 in
theorem laws_toKept.eq (k:Nat) (x0:(Int×Int×Unit)):evFn tabO false [] [] Tryz.f335 laws_toKept.sig k (x0,())=laws_toKept.f k x0:=by kernel_rfl
set_option maxRecDepth 100000 in
theorem laws_toKeptS.eq (k:Nat) (x0:List (Int×Int×Unit)):evFn tabO false [(335,.sig laws_toKept.sig)] [⟨7,[],[⟨.root 0,⟨false,2⟩,(.slice K27)⟩,⟨.slot 4,⟨false,0⟩,(.int .i64)⟩]⟩] Tryz.f284 laws_toKeptS.sig k (x0,())=laws_toKeptS.f k x0:=by kernel_rfl
set_option maxRecDepth 100000 in
theorem laws_toKeptSS.eq (k:Nat) (x0:List (List (Int×Int×Unit)×Unit)):evFn tabO false [(284,.sig laws_toKeptS.sig)] [⟨7,[],[⟨.root 0,⟨false,2⟩,(.slice K173)⟩,⟨.slot 4,⟨false,0⟩,(.int .i64)⟩]⟩] Tryz.f204 laws_toKeptSS.sig k (x0,())=laws_toKeptSS.f k x0:=by kernel_rfl
set_option maxRecDepth 100000 in
theorem laws_toStore.eq (k:Nat) (x0:(Int×List (List (Int×Int×Unit)×Unit)×Unit)):evFn tabO false [(204,.sig laws_toKeptSS.sig)] [] Tryz.f93 laws_toStore.sig k (x0,())=laws_toStore.f k x0:=by kernel_rfl
set_option maxRecDepth 100000 in
theorem laws_toNote.eq (k:Nat) (x0:(Int×Int×Int×Int×Int×Unit)):evFn tabO false [] [] Tryz.f118 laws_toNote.sig k (x0,())=laws_toNote.f k x0:=by kernel_rfl
set_option maxRecDepth 100000 in
theorem laws_toNoteS.eq (k:Nat) (x0:List (Int×Int×Int×Int×Int×Unit)):evFn tabO false [(118,.sig laws_toNote.sig)] [⟨7,[],[⟨.root 0,⟨false,2⟩,(.slice K48)⟩,⟨.slot 4,⟨false,0⟩,(.int .i64)⟩]⟩] Tryz.f94 laws_toNoteS.sig k (x0,())=laws_toNoteS.f k x0:=by kernel_rfl
set_option maxRecDepth 100000 in
theorem laws_toFlight.eq (k:Nat) (x0:(Int×Int×Int×Bool×Int×Unit)):evFn tabO false [] [] Tryz.f205 laws_toFlight.sig k (x0,())=laws_toFlight.f k x0:=by kernel_rfl
set_option maxRecDepth 100000 in
theorem laws_toFlightS.eq (k:Nat) (x0:List (Int×Int×Int×Bool×Int×Unit)):evFn tabO false [(205,.sig laws_toFlight.sig)] [⟨7,[],[⟨.root 0,⟨false,2⟩,(.slice K66)⟩,⟨.slot 4,⟨false,0⟩,(.int .i64)⟩]⟩] Tryz.f95 laws_toFlightS.sig k (x0,())=laws_toFlightS.f k x0:=by kernel_rfl
set_option maxRecDepth 100000 in
theorem laws_toTag.eq (k:Nat) (x0:(Int×Int×Int×Unit)):evFn tabO false [] [] Tryz.f117 laws_toTag.sig k (x0,())=laws_toTag.f k x0:=by kernel_rfl
set_option maxRecDepth 100000 in
theorem laws_toScreen.eq (k:Nat) (x0:(Int×Int×Int×Unit)):evFn tabO false [] [] Tryz.f285 laws_toScreen.sig k (x0,())=laws_toScreen.f k x0:=by kernel_rfl
set_option maxRecDepth 100000 in
theorem laws_toCase.eq (k:Nat) (x0:(Int×Int×Int×Int×Int×Int×Int×Int×Int×Int×Unit)):evFn tabO false [(117,.sig laws_toTag.sig),(285,.sig laws_toScreen.sig)] [] Tryz.f206 laws_toCase.sig k (x0,())=laws_toCase.f k x0:=by kernel_rfl
set_option maxRecDepth 100000 in
theorem laws_toCaseS.eq (k:Nat) (x0:List (Int×Int×Int×Int×Int×Int×Int×Int×Int×Int×Unit)):evFn tabO false [(206,.sig laws_toCase.sig)] [⟨7,[],[⟨.root 0,⟨false,2⟩,(.slice K61)⟩,⟨.slot 4,⟨false,0⟩,(.int .i64)⟩]⟩] Tryz.f96 laws_toCaseS.sig k (x0,())=laws_toCaseS.f k x0:=by kernel_rfl
set_option maxRecDepth 100000 in
theorem laws_toHall.eq (k:Nat) (x0:(Int×List (Int×Unit)×Int×Int×Int×Int×Bool×List (Int×Int×Int×Unit)×List (Int×Unit)×Int×List (Int×Int×List (Int×Unit)×Unit)×List (Int×List (Int×Unit)×Unit)×Int×List (List (Int×Int×Unit)×Unit)×List (Int×Int×Int×Int×Int×Unit)×List (Int×Int×Int×Bool×Int×Unit)×List (Int×Int×Int×Int×Int×Int×Int×Int×Int×Int×Unit)×Unit)):evFn tabO false [(89,.sig laws_toPolicy.sig),(90,.sig laws_toLimits.sig),(91,.sig laws_toBelt.sig),(92,.sig laws_toLoop.sig),(93,.sig laws_toStore.sig),(94,.sig laws_toNoteS.sig),(95,.sig laws_toFlightS.sig),(96,.sig laws_toCaseS.sig)] [] Tryz.f25 laws_toHall.sig k (x0,())=laws_toHall.f k x0:=by kernel_rfl
set_option maxRecDepth 100000 in
theorem laws_eqIntS.eq (k:Nat) (x0:List (Int×Unit)) (x1:List (Int×Unit)):evFn tabO false [] [⟨9,[],[⟨.slot 5,⟨false,0⟩,(.int .i64)⟩]⟩] Tryz.f207 laws_eqIntS.sig k (x0,x1,())=laws_eqIntS.f k x0 x1:=by kernel_rfl
set_option maxRecDepth 100000 in
theorem laws_eqPolicy.eq (k:Nat) (x0:(List (Int×Unit)×Unit)) (x1:(List (Int×Unit)×Unit)):evFn tabO false [(207,.sig laws_eqIntS.sig)] [] Tryz.f97 laws_eqPolicy.sig k (x0,x1,())=laws_eqPolicy.f k x0 x1:=by kernel_rfl
set_option maxRecDepth 100000 in
theorem laws_eqLimits.eq (k:Nat) (x0:(Int×Int×Unit)) (x1:(Int×Int×Unit)):evFn tabO false [] [] Tryz.f98 laws_eqLimits.sig k (x0,x1,())=laws_eqLimits.f k x0 x1:=by kernel_rfl
end Go.Proofs.YtpmjopbgccajgaaGreat.Eng
