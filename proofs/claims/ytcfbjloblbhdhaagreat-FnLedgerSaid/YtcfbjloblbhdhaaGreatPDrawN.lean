/- New halls drawn, and sameness of halls. No condition. -/
import Derived.Test.YtcfbjloblbhdhaaGreatPE
import Derived.Test.YtcfbjloblbhdhaaGreatPC
import Derived.Test.YtcfbjloblbhdhaaGreatD
namespace Go.Proofs.YtcfbjloblbhdhaaGreat.Eng
set_option linter.unusedVariables false
set_option linter.unusedSimpArgs false
theorem fl_sz {l:List FlightT} {n:Nat} (h:l.length≤n) {i:Nat} {y:FlightT}:(l.set i y).length≤n:=by simpa using h
theorem d_DrawNewHall {k:Nat} (hk:K0≤k) (b:List (Int×Unit)) (hb:b.length≤1048576):∃(P:List (Int×Unit)×Unit) (M:Int×Int×Unit) (B:BeltT) (L:LoopT) (S:StoreT) (F:List FlightT),spec_DrawNewHall.f k b=some (P,M,B,L,S,F,())∧SzT (hallOf P M B L S F):=by
 obtain⟨c,e1,h1⟩:=d_new hk b hb
 obtain⟨x,c1,e2,⟨hP,q1,q2,q3,q4,q5,q6⟩,h2⟩:=d_new9 hk h1
 have e2':spec_l09New.f k (c.1,c.2.1,c.2.2.1,())=some (x,c1,()):=e2
 obtain⟨y,c2,e3,_,_,_,h3⟩:=d_below k 10 h2
 have e3':spec_l01Below.f k (c1.1,c1.2.1,c1.2.2.1,()) 10=some (y,c2,()):=e3
 obtain⟨z,c3,e4,_,_,_,h4⟩:=d_below k 3 h3
 have e4':spec_l01Below.f k (c2.1,c2.2.1,c2.2.2.1,()) 3=some (z,c3,()):=e4
 have hs:=hallP_sz hP
 have htr:2≤x.2.2.2.2.2.2.2.2.1.length∧x.2.2.2.2.2.2.2.2.1.length≤60:=hP.2.2.2.2.1.1
 have hfl:x.2.2.2.2.2.2.2.2.2.2.2.2.2.2.2.1.length≤20:=hP.2.2.2.2.2.2.2.1
 have key:∀(w:List (Int×Unit)) (it:List Item) (tr:List (Int×Unit)) (la:List (List Kept×Unit)) (fl:List FlightT),w.length≤3→it.length≤1→tr.length≤60→la.length≤2→(∀l∈la,l.1.length≤1)→(bagsS la).length≤2→fl.length≤20→SzT (hallOf (w,()) (x.2.2.1,x.2.2.2.1,()) (x.2.2.2.2.1,x.2.2.2.2.2.1,x.2.2.2.2.2.2.1,it,()) (tr,x.2.2.2.2.2.2.2.2.2.1,x.2.2.2.2.2.2.2.2.2.2.1,x.2.2.2.2.2.2.2.2.2.2.2.1,()) (x.2.2.2.2.2.2.2.2.2.2.2.2.1,la,()) fl):=by
  intro w it tr la fl g1 g2 g3 g4 g5 g6 g7
  have hnz:=nz_len tr
  refine { wait:=by dsimp only;omega,items:=by dsimp only;omega,trays:=by dsimp only;omega,chutes:=hs.chutes,bags:=hs.bags,wants:=hs.wants,told:=hs.told,lanes:=by dsimp only;omega,kept:=fun c hc=>by have:=g5 c hc;omega,notes:=by simp,flights:=by dsimp only;omega,cases_:=by simp,allBags:= ?_,allKept:=by dsimp only;omega }
  show (nz tr).length+(inCh x.2.2.2.2.2.2.2.2.2.2.1).length≤1048576
  rw [inCh_nil q5]
  simp only [List.length_nil]
  omega
 have hw:x.2.1.length≤3:=by have:=hP.2.1.1;omega
 have l0:∀l∈([([],()),([],())]:List (List Kept×Unit)),l.1.length≤1:=by simp
 have l0':(bagsS [([],()),([],())]).length≤2:=by simp [bagsS,bagsK]
 have hit:x.2.2.2.2.2.2.2.1.length≤1:=by rw [q3];simp
 have hla:x.2.2.2.2.2.2.2.2.2.2.2.2.2.1.length≤2:=by rw [q4];simp
 have hla1:∀l∈x.2.2.2.2.2.2.2.2.2.2.2.2.2.1,l.1.length≤1:=by rw [q4];exact l0
 have hla2:(bagsS x.2.2.2.2.2.2.2.2.2.2.2.2.2.1).length≤2:=by rw [q4];exact l0'
 have n0:natI 0=0:=rfl
 unfold spec_DrawNewHall.f
 rw [e1,bnd_s]
 dsimp only
 rw [e2',bnd_s]
 simp only [lett_e]
 by_cases p0:y=0
 ·exact⟨_,_,_,_,_,_,by simp (disch:=omega) only [lett_e,bnd_s,bnd_chk,br_not,br_t,br_f,br_T,br_F,not_true_eq_false,not_false_eq_true,chk_T,chk_F,chk_eq,eqI_dc,ltI_dc,leI_dc,eqN_dc,notB_dc,andB_dc,andB_t,eqB_dc,notB_t,notB_f,inR_dc,upR_dc,ln_e,app_e,tk_e,dp_e,upd_e,repl_e,natI_n,br_pos,br_neg,addI_n,fitN_T,e3']<;>rfl,key x.2.1 [(1,2,1,())] x.2.2.2.2.2.2.2.2.1 x.2.2.2.2.2.2.2.2.2.2.2.2.2.1 x.2.2.2.2.2.2.2.2.2.2.2.2.2.2.2.1 hw (by simp) htr.2 hla hla1 hla2 hfl⟩
 by_cases p1:y=1
 ·exact⟨_,_,_,_,_,_,by simp (disch:=omega) only [lett_e,bnd_s,bnd_chk,br_not,br_t,br_f,br_T,br_F,not_true_eq_false,not_false_eq_true,chk_T,chk_F,chk_eq,eqI_dc,ltI_dc,leI_dc,eqN_dc,notB_dc,andB_dc,andB_t,eqB_dc,notB_t,notB_f,inR_dc,upR_dc,ln_e,app_e,tk_e,dp_e,upd_e,repl_e,natI_n,br_pos,br_neg,addI_n,fitN_T,e3',n0]<;>rfl,key x.2.1 x.2.2.2.2.2.2.2.1 (x.2.2.2.2.2.2.2.2.1.set 0 (1,())) x.2.2.2.2.2.2.2.2.2.2.2.2.2.1 x.2.2.2.2.2.2.2.2.2.2.2.2.2.2.2.1 hw hit (by simpa using htr.2) hla hla1 hla2 hfl⟩
 by_cases p2:y=2
 ·exact⟨_,_,_,_,_,_,by simp (disch:=omega) only [lett_e,bnd_s,bnd_chk,br_not,br_t,br_f,br_T,br_F,not_true_eq_false,not_false_eq_true,chk_T,chk_F,chk_eq,eqI_dc,ltI_dc,leI_dc,eqN_dc,notB_dc,andB_dc,andB_t,eqB_dc,notB_t,notB_f,inR_dc,upR_dc,ln_e,app_e,tk_e,dp_e,upd_e,repl_e,natI_n,br_pos,br_neg,addI_n,fitN_T,e3',n0]<;>rfl,key x.2.1 x.2.2.2.2.2.2.2.1 x.2.2.2.2.2.2.2.2.1 x.2.2.2.2.2.2.2.2.2.2.2.2.2.1 (x.2.2.2.2.2.2.2.2.2.2.2.2.2.2.2.1.set 0 ((rdP (0,0,0,false,0,()) x.2.2.2.2.2.2.2.2.2.2.2.2.2.2.2.1 0).1,(rdP (0,0,0,false,0,()) x.2.2.2.2.2.2.2.2.2.2.2.2.2.2.2.1 0).2.1,5,(rdP (0,0,0,false,0,()) x.2.2.2.2.2.2.2.2.2.2.2.2.2.2.2.1 0).2.2.2)) hw hit htr.2 hla hla1 hla2 (fl_sz hfl)⟩
 by_cases p3:y=3
 ·have hl0:(0:Int)<x.2.2.2.2.2.2.2.2.2.2.2.2.2.1.length:=by rw [q4];decide
  refine⟨_,_,_,_,_,_,by simp (disch:=omega) only [lett_e,bnd_s,bnd_chk,br_not,br_t,br_f,br_T,br_F,not_true_eq_false,not_false_eq_true,chk_T,chk_F,chk_eq,eqI_dc,ltI_dc,leI_dc,eqN_dc,notB_dc,andB_dc,andB_t,eqB_dc,notB_t,notB_f,inR_dc,upR_dc,ln_e,app_e,tk_e,dp_e,upd_e,repl_e,natI_n,br_pos,br_neg,addI_n,fitN_T,e3',n0]<;>rfl,key x.2.1 x.2.2.2.2.2.2.2.1 x.2.2.2.2.2.2.2.2.1 (x.2.2.2.2.2.2.2.2.2.2.2.2.2.1.set 0 ([(1,0,())],())) x.2.2.2.2.2.2.2.2.2.2.2.2.2.2.2.1 hw hit htr.2 (by rw [q4];simp) (by rw [q4];simp) (by rw [q4];simp [bagsS,bagsK]) hfl⟩
 by_cases p4:y=4
 ·exact⟨_,_,_,_,_,_,by simp (disch:=omega) only [lett_e,bnd_s,bnd_chk,br_not,br_t,br_f,br_T,br_F,not_true_eq_false,not_false_eq_true,chk_T,chk_F,chk_eq,eqI_dc,ltI_dc,leI_dc,eqN_dc,notB_dc,andB_dc,andB_t,eqB_dc,notB_t,notB_f,inR_dc,upR_dc,ln_e,app_e,tk_e,dp_e,upd_e,repl_e,natI_n,br_pos,br_neg,addI_n,fitN_T,e3',n0,e4',List.length_set]<;>rfl,key x.2.1 x.2.2.2.2.2.2.2.1 x.2.2.2.2.2.2.2.2.1 x.2.2.2.2.2.2.2.2.2.2.2.2.2.1 _ hw hit htr.2 hla hla1 hla2 (fl_sz (fl_sz hfl))⟩
 by_cases p5:y=5
 ·exact⟨_,_,_,_,_,_,by simp (disch:=omega) only [lett_e,bnd_s,bnd_chk,br_not,br_t,br_f,br_T,br_F,not_true_eq_false,not_false_eq_true,chk_T,chk_F,chk_eq,eqI_dc,ltI_dc,leI_dc,eqN_dc,notB_dc,andB_dc,andB_t,eqB_dc,notB_t,notB_f,inR_dc,upR_dc,ln_e,app_e,tk_e,dp_e,upd_e,repl_e,natI_n,br_pos,br_neg,addI_n,fitN_T,e3']<;>rfl,key [(1,()),(2,())] x.2.2.2.2.2.2.2.1 x.2.2.2.2.2.2.2.2.1 x.2.2.2.2.2.2.2.2.2.2.2.2.2.1 x.2.2.2.2.2.2.2.2.2.2.2.2.2.2.2.1 (by simp) hit htr.2 hla hla1 hla2 hfl⟩
 ·exact⟨_,_,_,_,_,_,by simp (disch:=omega) only [lett_e,bnd_s,bnd_chk,br_not,br_t,br_f,br_T,br_F,not_true_eq_false,not_false_eq_true,chk_T,chk_F,chk_eq,eqI_dc,ltI_dc,leI_dc,eqN_dc,notB_dc,andB_dc,andB_t,eqB_dc,notB_t,notB_f,inR_dc,upR_dc,ln_e,app_e,tk_e,dp_e,upd_e,repl_e,natI_n,br_pos,br_neg,addI_n,fitN_T,e3']<;>rfl,key x.2.1 x.2.2.2.2.2.2.2.1 x.2.2.2.2.2.2.2.2.1 x.2.2.2.2.2.2.2.2.2.2.2.2.2.1 x.2.2.2.2.2.2.2.2.2.2.2.2.2.2.2.1 hw hit htr.2 hla hla1 hla2 hfl⟩
theorem eqB_same (b:Bool):eqB b b=true:=by cases b<;>rfl
theorem sameInts_f {k:Nat} (hk:K0≤k) (l:List (Int×Unit)) (hl:l.length≤1048576):laws_sameInts.f k l l=chkP True:=by
 unfold laws_sameInts.f
 simp (disch:=omega) only [lett_e,bnd_s,bnd_chk,br_not,br_t,br_f,br_T,br_F,not_true_eq_false,not_false_eq_true,chk_T,chk_F,chk_eq,eqI_dc,ltI_dc,leI_dc,eqN_dc,notB_dc,andB_dc,andB_t,eqB_dc,notB_t,notB_f,inR_dc,upR_dc,ln_e,app_e,tk_e,dp_e,upd_e,repl_e,natI_n,br_pos,br_neg,addI_n,fitN_T]
 refine eq_loop hk hl (fun i rec hi=> ?_) (fun rec=>by simp (disch:=omega) only [lett_e,bnd_s,bnd_chk,br_not,br_t,br_f,br_T,br_F,not_true_eq_false,not_false_eq_true,chk_T,chk_F,chk_eq,eqI_dc,ltI_dc,leI_dc,eqN_dc,notB_dc,andB_dc,andB_t,eqB_dc,notB_t,notB_f,inR_dc,upR_dc,ln_e,app_e,tk_e,dp_e,upd_e,repl_e,natI_n,br_pos,br_neg,addI_n,fitN_T])
 simp (disch:=omega) only [lett_e,bnd_s,bnd_chk,br_not,br_t,br_f,br_T,br_F,not_true_eq_false,not_false_eq_true,chk_T,chk_F,chk_eq,eqI_dc,ltI_dc,leI_dc,eqN_dc,notB_dc,andB_dc,andB_t,eqB_dc,notB_t,notB_f,inR_dc,upR_dc,ln_e,app_e,tk_e,dp_e,upd_e,repl_e,natI_n,br_pos,br_neg,addI_n,fitN_T]
 rfl
theorem sameItems_f {k:Nat} (hk:K0≤k) (l:List Item) (hl:l.length≤1048576):laws_sameItems.f k l l=chkP True:=by
 unfold laws_sameItems.f
 simp (disch:=omega) only [lett_e,bnd_s,bnd_chk,br_not,br_t,br_f,br_T,br_F,not_true_eq_false,not_false_eq_true,chk_T,chk_F,chk_eq,eqI_dc,ltI_dc,leI_dc,eqN_dc,notB_dc,andB_dc,andB_t,eqB_dc,notB_t,notB_f,inR_dc,upR_dc,ln_e,app_e,tk_e,dp_e,upd_e,repl_e,natI_n,br_pos,br_neg,addI_n,fitN_T]
 refine eq_loop hk hl (fun i rec hi=> ?_) (fun rec=>by simp (disch:=omega) only [lett_e,bnd_s,bnd_chk,br_not,br_t,br_f,br_T,br_F,not_true_eq_false,not_false_eq_true,chk_T,chk_F,chk_eq,eqI_dc,ltI_dc,leI_dc,eqN_dc,notB_dc,andB_dc,andB_t,eqB_dc,notB_t,notB_f,inR_dc,upR_dc,ln_e,app_e,tk_e,dp_e,upd_e,repl_e,natI_n,br_pos,br_neg,addI_n,fitN_T])
 simp (disch:=omega) only [lett_e,bnd_s,bnd_chk,br_not,br_t,br_f,br_T,br_F,not_true_eq_false,not_false_eq_true,chk_T,chk_F,chk_eq,eqI_dc,ltI_dc,leI_dc,eqN_dc,notB_dc,andB_dc,andB_t,eqB_dc,notB_t,notB_f,inR_dc,upR_dc,ln_e,app_e,tk_e,dp_e,upd_e,repl_e,natI_n,br_pos,br_neg,addI_n,fitN_T,and_self,iff_self]
 rfl
theorem sameKept_f {k:Nat} (hk:K0≤k) (l:List Kept) (hl:l.length≤1048576):laws_sameKept.f k l l=chkP True:=by
 unfold laws_sameKept.f
 simp (disch:=omega) only [lett_e,bnd_s,bnd_chk,br_not,br_t,br_f,br_T,br_F,not_true_eq_false,not_false_eq_true,chk_T,chk_F,chk_eq,eqI_dc,ltI_dc,leI_dc,eqN_dc,notB_dc,andB_dc,andB_t,eqB_dc,notB_t,notB_f,inR_dc,upR_dc,ln_e,app_e,tk_e,dp_e,upd_e,repl_e,natI_n,br_pos,br_neg,addI_n,fitN_T]
 refine eq_loop hk hl (fun i rec hi=> ?_) (fun rec=>by simp (disch:=omega) only [lett_e,bnd_s,bnd_chk,br_not,br_t,br_f,br_T,br_F,not_true_eq_false,not_false_eq_true,chk_T,chk_F,chk_eq,eqI_dc,ltI_dc,leI_dc,eqN_dc,notB_dc,andB_dc,andB_t,eqB_dc,notB_t,notB_f,inR_dc,upR_dc,ln_e,app_e,tk_e,dp_e,upd_e,repl_e,natI_n,br_pos,br_neg,addI_n,fitN_T])
 simp (disch:=omega) only [lett_e,bnd_s,bnd_chk,br_not,br_t,br_f,br_T,br_F,not_true_eq_false,not_false_eq_true,chk_T,chk_F,chk_eq,eqI_dc,ltI_dc,leI_dc,eqN_dc,notB_dc,andB_dc,andB_t,eqB_dc,notB_t,notB_f,inR_dc,upR_dc,ln_e,app_e,tk_e,dp_e,upd_e,repl_e,natI_n,br_pos,br_neg,addI_n,fitN_T,and_self,iff_self]
 rfl
theorem sameFlights_f {k:Nat} (hk:K0≤k) (l:List FlightT) (hl:l.length≤1048576):laws_sameFlights.f k l l=chkP True:=by
 unfold laws_sameFlights.f
 simp (disch:=omega) only [lett_e,bnd_s,bnd_chk,br_not,br_t,br_f,br_T,br_F,not_true_eq_false,not_false_eq_true,chk_T,chk_F,chk_eq,eqI_dc,ltI_dc,leI_dc,eqN_dc,notB_dc,andB_dc,andB_t,eqB_dc,notB_t,notB_f,inR_dc,upR_dc,ln_e,app_e,tk_e,dp_e,upd_e,repl_e,natI_n,br_pos,br_neg,addI_n,fitN_T]
 refine eq_loop hk hl (fun i rec hi=> ?_) (fun rec=>by simp (disch:=omega) only [lett_e,bnd_s,bnd_chk,br_not,br_t,br_f,br_T,br_F,not_true_eq_false,not_false_eq_true,chk_T,chk_F,chk_eq,eqI_dc,ltI_dc,leI_dc,eqN_dc,notB_dc,andB_dc,andB_t,eqB_dc,notB_t,notB_f,inR_dc,upR_dc,ln_e,app_e,tk_e,dp_e,upd_e,repl_e,natI_n,br_pos,br_neg,addI_n,fitN_T])
 simp (disch:=omega) only [lett_e,bnd_s,bnd_chk,br_not,br_t,br_f,br_T,br_F,not_true_eq_false,not_false_eq_true,chk_T,chk_F,chk_eq,eqI_dc,ltI_dc,leI_dc,eqN_dc,notB_dc,andB_dc,andB_t,eqB_dc,notB_t,notB_f,inR_dc,upR_dc,ln_e,app_e,tk_e,dp_e,upd_e,repl_e,natI_n,br_pos,br_neg,addI_n,fitN_T,and_self,iff_self,eqB_same,dc_True]
 rfl
theorem sameCases_f {k:Nat} (hk:K0≤k) (l:List CaseT) (hl:l.length≤1048576):laws_sameCases.f k l l=chkP True:=by
 unfold laws_sameCases.f
 simp (disch:=omega) only [lett_e,bnd_s,bnd_chk,br_not,br_t,br_f,br_T,br_F,not_true_eq_false,not_false_eq_true,chk_T,chk_F,chk_eq,eqI_dc,ltI_dc,leI_dc,eqN_dc,notB_dc,andB_dc,andB_t,eqB_dc,notB_t,notB_f,inR_dc,upR_dc,ln_e,app_e,tk_e,dp_e,upd_e,repl_e,natI_n,br_pos,br_neg,addI_n,fitN_T]
 refine eq_loop hk hl (fun i rec hi=> ?_) (fun rec=>by simp (disch:=omega) only [lett_e,bnd_s,bnd_chk,br_not,br_t,br_f,br_T,br_F,not_true_eq_false,not_false_eq_true,chk_T,chk_F,chk_eq,eqI_dc,ltI_dc,leI_dc,eqN_dc,notB_dc,andB_dc,andB_t,eqB_dc,notB_t,notB_f,inR_dc,upR_dc,ln_e,app_e,tk_e,dp_e,upd_e,repl_e,natI_n,br_pos,br_neg,addI_n,fitN_T])
 simp (disch:=omega) only [lett_e,bnd_s,bnd_chk,br_not,br_t,br_f,br_T,br_F,not_true_eq_false,not_false_eq_true,chk_T,chk_F,chk_eq,eqI_dc,ltI_dc,leI_dc,eqN_dc,notB_dc,andB_dc,andB_t,eqB_dc,notB_t,notB_f,inR_dc,upR_dc,ln_e,app_e,tk_e,dp_e,upd_e,repl_e,natI_n,br_pos,br_neg,addI_n,fitN_T,and_self,iff_self]
 rfl
theorem sameNotesH_f {k:Nat} (hk:K0≤k) (l:List NoteT) (hl:l.length≤1048576):laws_sameNotes.f k l l=chkP True:=by
 unfold laws_sameNotes.f
 simp (disch:=omega) only [lett_e,bnd_s,bnd_chk,br_not,br_t,br_f,br_T,br_F,not_true_eq_false,not_false_eq_true,chk_T,chk_F,chk_eq,eqI_dc,ltI_dc,leI_dc,eqN_dc,notB_dc,andB_dc,andB_t,eqB_dc,notB_t,notB_f,inR_dc,upR_dc,ln_e,app_e,tk_e,dp_e,upd_e,repl_e,natI_n,br_pos,br_neg,addI_n,fitN_T]
 refine eq_loop hk hl (fun i rec hi=> ?_) (fun rec=>by simp (disch:=omega) only [lett_e,bnd_s,bnd_chk,br_not,br_t,br_f,br_T,br_F,not_true_eq_false,not_false_eq_true,chk_T,chk_F,chk_eq,eqI_dc,ltI_dc,leI_dc,eqN_dc,notB_dc,andB_dc,andB_t,eqB_dc,notB_t,notB_f,inR_dc,upR_dc,ln_e,app_e,tk_e,dp_e,upd_e,repl_e,natI_n,br_pos,br_neg,addI_n,fitN_T])
 simp (disch:=omega) only [lett_e,bnd_s,bnd_chk,br_not,br_t,br_f,br_T,br_F,not_true_eq_false,not_false_eq_true,chk_T,chk_F,chk_eq,eqI_dc,ltI_dc,leI_dc,eqN_dc,notB_dc,andB_dc,andB_t,eqB_dc,notB_t,notB_f,inR_dc,upR_dc,ln_e,app_e,tk_e,dp_e,upd_e,repl_e,natI_n,br_pos,br_neg,addI_n,fitN_T,and_self,iff_self]
 rfl
theorem sameBelt_f {k:Nat} (hk:K0≤k) (x:BeltT) (hl:x.2.2.2.1.length≤1048576):laws_sameBelt.f k x x=chkP True:=by
 unfold laws_sameBelt.f
 simp (disch:=omega) only [lett_e,bnd_s,bnd_chk,br_not,br_t,br_f,br_T,br_F,not_true_eq_false,not_false_eq_true,chk_T,chk_F,chk_eq,eqI_dc,ltI_dc,leI_dc,eqN_dc,notB_dc,andB_dc,andB_t,eqB_dc,notB_t,notB_f,inR_dc,upR_dc,ln_e,app_e,tk_e,dp_e,upd_e,repl_e,natI_n,br_pos,br_neg,addI_n,fitN_T,eqB_same,sameItems_f hk _ hl]
theorem sameStore_f {k:Nat} (hk:K0≤k) (x:StoreT) (h1:x.2.1.length≤1048576) (h2:∀c∈x.2.1,c.1.length≤1048576):laws_sameStore.f k x x=chkP True:=by
 unfold laws_sameStore.f
 simp (disch:=omega) only [lett_e,bnd_s,bnd_chk,br_not,br_t,br_f,br_T,br_F,not_true_eq_false,not_false_eq_true,chk_T,chk_F,chk_eq,eqI_dc,ltI_dc,leI_dc,eqN_dc,notB_dc,andB_dc,andB_t,eqB_dc,notB_t,notB_f,inR_dc,upR_dc,ln_e,app_e,tk_e,dp_e,upd_e,repl_e,natI_n,br_pos,br_neg,addI_n,fitN_T]
 refine eq_loop hk h1 (fun i rec hi=> ?_) (fun rec=>by simp (disch:=omega) only [lett_e,bnd_s,bnd_chk,br_not,br_t,br_f,br_T,br_F,not_true_eq_false,not_false_eq_true,chk_T,chk_F,chk_eq,eqI_dc,ltI_dc,leI_dc,eqN_dc,notB_dc,andB_dc,andB_t,eqB_dc,notB_t,notB_f,inR_dc,upR_dc,ln_e,app_e,tk_e,dp_e,upd_e,repl_e,natI_n,br_pos,br_neg,addI_n,fitN_T])
 have:=sameKept_f hk (rdP ([],()) x.2.1 i).1 (h2 _ (rd_mem hi))
 simp (disch:=omega) only [lett_e,bnd_s,bnd_chk,br_not,br_t,br_f,br_T,br_F,not_true_eq_false,not_false_eq_true,chk_T,chk_F,chk_eq,eqI_dc,ltI_dc,leI_dc,eqN_dc,notB_dc,andB_dc,andB_t,eqB_dc,notB_t,notB_f,inR_dc,upR_dc,ln_e,app_e,tk_e,dp_e,upd_e,repl_e,natI_n,br_pos,br_neg,addI_n,fitN_T,this]
 rfl
theorem sameLoop_f {k:Nat} (hk:K0≤k) (x:LoopT) (h1:x.1.length≤1048576) (h2:x.2.2.1.length≤1048576) (h3:∀c∈x.2.2.1,c.2.2.1.length≤1048576) (h4:x.2.2.2.1.length≤1048576) (h5:∀c∈x.2.2.2.1,c.2.1.length≤1048576):laws_sameLoop.f k x x=chkP True:=by
 have e1:=sameInts_f hk _ h1
 unfold laws_sameLoop.f
 simp (disch:=omega) only [lett_e,bnd_s,bnd_chk,br_not,br_t,br_f,br_T,br_F,not_true_eq_false,not_false_eq_true,chk_T,chk_F,chk_eq,eqI_dc,ltI_dc,leI_dc,eqN_dc,notB_dc,andB_dc,andB_t,eqB_dc,notB_t,notB_f,inR_dc,upR_dc,ln_e,app_e,tk_e,dp_e,upd_e,repl_e,natI_n,br_pos,br_neg,addI_n,fitN_T,e1]
 refine eq_loop hk h2 (fun i rec hi=> ?_) (fun rec=> ?_)
 ·have:=sameInts_f hk (rdP (0,0,[],()) x.2.2.1 i).2.2.1 (h3 _ (rd_mem hi))
  simp (disch:=omega) only [lett_e,bnd_s,bnd_chk,br_not,br_t,br_f,br_T,br_F,not_true_eq_false,not_false_eq_true,chk_T,chk_F,chk_eq,eqI_dc,ltI_dc,leI_dc,eqN_dc,notB_dc,andB_dc,andB_t,eqB_dc,notB_t,notB_f,inR_dc,upR_dc,ln_e,app_e,tk_e,dp_e,upd_e,repl_e,natI_n,br_pos,br_neg,addI_n,fitN_T,this]
  rfl
 ·simp (disch:=omega) only [lett_e,bnd_s,bnd_chk,br_not,br_t,br_f,br_T,br_F,not_true_eq_false,not_false_eq_true,chk_T,chk_F,chk_eq,eqI_dc,ltI_dc,leI_dc,eqN_dc,notB_dc,andB_dc,andB_t,eqB_dc,notB_t,notB_f,inR_dc,upR_dc,ln_e,app_e,tk_e,dp_e,upd_e,repl_e,natI_n,br_pos,br_neg,addI_n,fitN_T]
  refine eq_loop hk h4 (fun i rec hi=> ?_) (fun rec=>by simp (disch:=omega) only [lett_e,bnd_s,bnd_chk,br_not,br_t,br_f,br_T,br_F,not_true_eq_false,not_false_eq_true,chk_T,chk_F,chk_eq,eqI_dc,ltI_dc,leI_dc,eqN_dc,notB_dc,andB_dc,andB_t,eqB_dc,notB_t,notB_f,inR_dc,upR_dc,ln_e,app_e,tk_e,dp_e,upd_e,repl_e,natI_n,br_pos,br_neg,addI_n,fitN_T])
  have:=sameInts_f hk (rdP (0,[],()) x.2.2.2.1 i).2.1 (h5 _ (rd_mem hi))
  simp (disch:=omega) only [lett_e,bnd_s,bnd_chk,br_not,br_t,br_f,br_T,br_F,not_true_eq_false,not_false_eq_true,chk_T,chk_F,chk_eq,eqI_dc,ltI_dc,leI_dc,eqN_dc,notB_dc,andB_dc,andB_t,eqB_dc,notB_t,notB_f,inR_dc,upR_dc,ln_e,app_e,tk_e,dp_e,upd_e,repl_e,natI_n,br_pos,br_neg,addI_n,fitN_T,this]
  rfl
theorem sameHall_f {k:Nat} (hk:K0≤k) (x:HallT) (hs:SzH x):laws_sameHall.f k x x=chkP True:=by
 have h1:=sameInts_f hk x.2.1 hs.wait
 have h2:=sameBelt_f hk (x.2.2.2.2.1,x.2.2.2.2.2.1,x.2.2.2.2.2.2.1,x.2.2.2.2.2.2.2.1,()) hs.items
 have h3:=sameLoop_f hk (x.2.2.2.2.2.2.2.2.1,x.2.2.2.2.2.2.2.2.2.1,x.2.2.2.2.2.2.2.2.2.2.1,x.2.2.2.2.2.2.2.2.2.2.2.1,()) hs.trays hs.chutes hs.bags hs.wants hs.told
 have h4:=sameStore_f hk (x.2.2.2.2.2.2.2.2.2.2.2.2.1,x.2.2.2.2.2.2.2.2.2.2.2.2.2.1,()) hs.lanes hs.kept
 unfold laws_sameHall.f
 simp (disch:=omega) only [lett_e,bnd_s,bnd_chk,br_not,br_t,br_f,br_T,br_F,not_true_eq_false,not_false_eq_true,chk_T,chk_F,chk_eq,eqI_dc,ltI_dc,leI_dc,eqN_dc,notB_dc,andB_dc,andB_t,eqB_dc,notB_t,notB_f,inR_dc,upR_dc,ln_e,app_e,tk_e,dp_e,upd_e,repl_e,natI_n,br_pos,br_neg,addI_n,fitN_T,h1,and_self,h2,h3,h4,sameNotesH_f hk _ hs.notes,sameFlights_f hk _ hs.flights,sameCases_f hk _ hs.cases_]
end Go.Proofs.YtcfbjloblbhdhaaGreat.Eng
