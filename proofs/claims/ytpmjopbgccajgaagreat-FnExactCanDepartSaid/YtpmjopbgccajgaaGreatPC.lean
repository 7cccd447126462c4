/- Pure laws: PBelt, PNote, PScreen, PNew, PLoop, PWant, PStore, PPut, PTake, PTake2, PFly, PDrop, PDep, PHall, PMove, PDec. No condition. -/
import Derived.Test.YtpmjopbgccajgaaGreatPA
import Derived.Test.YtpmjopbgccajgaaGreatD
import Derived.Test.YtpmjopbgccajgaaGreatPB
set_option linter.unusedVariables false
set_option linter.unusedSimpArgs false
namespace Go.Proofs.YtpmjopbgccajgaaGreat.Eng
theorem copy_loop {α R:Type} {d:α} {k:Nat} (hk:K0≤k) (l:List α) (hl:l.length≤1048576) {F:(List α×Int×Unit→Option R)→List α×Int×Unit→Option R} {r:Option R}
  (hF:∀(i:Nat) rec,i<l.length→(l.take i).length≤1048576→F rec (l.take i,(i:Int),())=rec (l.take i++[rdP d l i],((i+1:Nat):Int),())) (hE:∀rec,F rec (l,(l.length:Int),())=r):loopN F k ([],0,())=r:=by
 unfold K0 at hk
 refine loop_run (n:=l.length) (fun i=>(l.take i,(i:Int),())) (by simp) (fun i hi rec=> ?_) (fun rec=>by rw [List.take_length];exact hE rec) (by omega)
 rw [hF i rec hi (by rw [List.length_take];omega),take_s (d:=d) hi]
theorem lt_t {α R:Type} {l:List α} {i:Nat} (h:i<l.length) (A B:Option R):br (ltI (i:Int) (ln l)) A B=A:=by rw [ltI_dc,ln_e,br_pos (by omega)]
theorem lt_e {α R:Type} {l:List α} (A B:Option R):br (ltI (l.length:Int) (ln l)) A B=B:=by rw [ltI_dc,ln_e,br_neg (by omega)]
abbrev BeltT:=Int×Int×Bool×List Item×Unit
end Go.Proofs.YtpmjopbgccajgaaGreat.Eng
namespace Go.Proofs.YtpmjopbgccajgaaGreat.Eng
theorem spec_Gaps_f {k:Nat} (hk:K0≤k) (l:List NoteT):spec_Gaps.f k l=some (@ite _ (NotesP l) (Classical.propDecidable _) (if l.length=0 then 0 else(rdP (0,0,0,0,0,()) l (l.length-1)).1-l.length) (-1),()):=by
 have h1:=spec_NotesOk_f hk l
 unfold spec_Gaps.f
 rw [h1,bnd_chk,br_not]
 by_cases hP:NotesP l
 case neg=>rw [br_neg hP,if_neg hP]
 rw [br_pos hP,if_pos hP]
 have hlen:=hP.1
 by_cases h0:l.length=0
 ·rw [if_pos h0];simp (disch:=omega) only [lett_e,bnd_s,bnd_chk,br_not,br_t,br_f,br_T,br_F,not_true_eq_false,not_false_eq_true,chk_T,chk_F,chk_eq,eqI_dc,ltI_dc,leI_dc,eqN_dc,notB_dc,andB_dc,andB_t,eqB_dc,notB_t,notB_f,inR_dc,upR_dc,ln_e,app_e,tk_e,dp_e,upd_e,repl_e,natI_n,br_pos,br_neg,addI_n,fitN_T]
 ·rw [if_neg h0]
  have hb:=hP.2.1 _ (by rw [rd_lt (show l.length-1<l.length by omega)];exact List.getElem_mem _:rdP (0,0,0,0,0,()) l (l.length-1)∈l)
  have hb':=hb.1
  have hn:natI ((l.length:Int)-1)=l.length-1:=by unfold natI;omega
  simp (disch:=omega) only [lett_e,bnd_s,bnd_chk,br_not,br_t,br_f,br_T,br_F,not_true_eq_false,not_false_eq_true,chk_T,chk_F,chk_eq,eqI_dc,ltI_dc,leI_dc,eqN_dc,notB_dc,andB_dc,andB_t,eqB_dc,notB_t,notB_f,inR_dc,upR_dc,ln_e,app_e,tk_e,dp_e,upd_e,repl_e,natI_n,br_pos,br_neg,addI_n,fitN_T,subI_id,hn]
end Go.Proofs.YtpmjopbgccajgaaGreat.Eng
namespace Go.Proofs.YtpmjopbgccajgaaGreat.Eng
end Go.Proofs.YtpmjopbgccajgaaGreat.Eng
namespace Go.Proofs.YtpmjopbgccajgaaGreat.Eng
theorem slices_Clone_impl_Item_f (k:Nat) {l:List Item} (h:l.length≤1048576):slices_Clone_impl_Item.f k l=some (l,()):=by
 unfold slices_Clone_impl_Item.f
 simp (disch:=omega) only [lett_e,bnd_s,bnd_chk,br_not,br_t,br_f,br_T,br_F,not_true_eq_false,not_false_eq_true,chk_T,chk_F,chk_eq,eqI_dc,ltI_dc,leI_dc,eqN_dc,notB_dc,andB_dc,andB_t,eqB_dc,notB_t,notB_f,inR_dc,upR_dc,ln_e,app_e,tk_e,dp_e,upd_e,repl_e,natI_n,br_pos,br_neg,addI_n,fitN_T,fit0 h,List.nil_append]
 exact nilB_same _ _ _ (fun e=>by rw [e])
theorem slices_Clone_impl_Kept_f (k:Nat) {l:List Kept} (h:l.length≤1048576):slices_Clone_impl_Kept.f k l=some (l,()):=by
 unfold slices_Clone_impl_Kept.f
 simp (disch:=omega) only [lett_e,bnd_s,bnd_chk,br_not,br_t,br_f,br_T,br_F,not_true_eq_false,not_false_eq_true,chk_T,chk_F,chk_eq,eqI_dc,ltI_dc,leI_dc,eqN_dc,notB_dc,andB_dc,andB_t,eqB_dc,notB_t,notB_f,inR_dc,upR_dc,ln_e,app_e,tk_e,dp_e,upd_e,repl_e,natI_n,br_pos,br_neg,addI_n,fitN_T,fit0 h,List.nil_append]
 exact nilB_same _ _ _ (fun e=>by rw [e])
theorem slices_Clone_impl_Note_f (k:Nat) {l:List NoteT} (h:l.length≤1048576):slices_Clone_impl_Note.f k l=some (l,()):=by
 unfold slices_Clone_impl_Note.f
 simp (disch:=omega) only [lett_e,bnd_s,bnd_chk,br_not,br_t,br_f,br_T,br_F,not_true_eq_false,not_false_eq_true,chk_T,chk_F,chk_eq,eqI_dc,ltI_dc,leI_dc,eqN_dc,notB_dc,andB_dc,andB_t,eqB_dc,notB_t,notB_f,inR_dc,upR_dc,ln_e,app_e,tk_e,dp_e,upd_e,repl_e,natI_n,br_pos,br_neg,addI_n,fitN_T,fit0 h,List.nil_append]
 exact nilB_same _ _ _ (fun e=>by rw [e])
theorem slices_Clone_impl_Flight_f (k:Nat) {l:List FlightT} (h:l.length≤1048576):slices_Clone_impl_Flight.f k l=some (l,()):=by
 unfold slices_Clone_impl_Flight.f
 simp (disch:=omega) only [lett_e,bnd_s,bnd_chk,br_not,br_t,br_f,br_T,br_F,not_true_eq_false,not_false_eq_true,chk_T,chk_F,chk_eq,eqI_dc,ltI_dc,leI_dc,eqN_dc,notB_dc,andB_dc,andB_t,eqB_dc,notB_t,notB_f,inR_dc,upR_dc,ln_e,app_e,tk_e,dp_e,upd_e,repl_e,natI_n,br_pos,br_neg,addI_n,fitN_T,fit0 h,List.nil_append]
 exact nilB_same _ _ _ (fun e=>by rw [e])
theorem slices_Clone_impl_Case_f (k:Nat) {l:List CaseT} (h:l.length≤1048576):slices_Clone_impl_Case.f k l=some (l,()):=by
 unfold slices_Clone_impl_Case.f
 simp (disch:=omega) only [lett_e,bnd_s,bnd_chk,br_not,br_t,br_f,br_T,br_F,not_true_eq_false,not_false_eq_true,chk_T,chk_F,chk_eq,eqI_dc,ltI_dc,leI_dc,eqN_dc,notB_dc,andB_dc,andB_t,eqB_dc,notB_t,notB_f,inR_dc,upR_dc,ln_e,app_e,tk_e,dp_e,upd_e,repl_e,natI_n,br_pos,br_neg,addI_n,fitN_T,fit0 h,List.nil_append]
 exact nilB_same _ _ _ (fun e=>by rw [e])
theorem impl_copyBelt_f (k:Nat) (b:BeltT) (h:b.2.2.2.1.length≤1048576):impl_copyBelt.f k b=some (b,()):=by
 unfold impl_copyBelt.f
 simp (disch:=omega) only [lett_e,bnd_s,bnd_chk,br_not,br_t,br_f,br_T,br_F,not_true_eq_false,not_false_eq_true,chk_T,chk_F,chk_eq,eqI_dc,ltI_dc,leI_dc,eqN_dc,notB_dc,andB_dc,andB_t,eqB_dc,notB_t,notB_f,inR_dc,upR_dc,ln_e,app_e,tk_e,dp_e,upd_e,repl_e,natI_n,br_pos,br_neg,addI_n,fitN_T,slices_Clone_impl_Item_f k h]
theorem impl_copyStore_f {k:Nat} (hk:K0≤k) (s:StoreT) (h1:s.2.1.length≤1048576) (h2:∀c∈s.2.1,c.1.length≤1048576):impl_copyStore.f k s=some (s,()):=by
 unfold impl_copyStore.f
 refine copy_loop (d:=([],())) hk s.2.1 h1 (fun i rec hi hl=> ?_) (fun rec=>by simp (disch:=omega) only [lett_e,bnd_s,bnd_chk,br_not,br_t,br_f,br_T,br_F,not_true_eq_false,not_false_eq_true,chk_T,chk_F,chk_eq,eqI_dc,ltI_dc,leI_dc,eqN_dc,notB_dc,andB_dc,andB_t,eqB_dc,notB_t,notB_f,inR_dc,upR_dc,ln_e,app_e,tk_e,dp_e,upd_e,repl_e,natI_n,br_pos,br_neg,addI_n,fitN_T])
 have h3:=h2 _ (rd_mem (d:=([],())) hi)
 simp (disch:=omega) only [lett_e,bnd_s,bnd_chk,br_not,br_t,br_f,br_T,br_F,not_true_eq_false,not_false_eq_true,chk_T,chk_F,chk_eq,eqI_dc,ltI_dc,leI_dc,eqN_dc,notB_dc,andB_dc,andB_t,eqB_dc,notB_t,notB_f,inR_dc,upR_dc,ln_e,app_e,tk_e,dp_e,upd_e,repl_e,natI_n,br_pos,br_neg,addI_n,fitN_T,slices_Clone_impl_Kept_f k h3,fit1 _ hl]
 rfl
theorem impl_copyLoop_f {k:Nat} (hk:K0≤k) (x:LoopT) (h1:x.1.length≤1048576) (h2:x.2.2.1.length≤1048576) (h3:∀c∈x.2.2.1,c.2.2.1.length≤1048576) (h4:x.2.2.2.1.length≤1048576) (h5:∀c∈x.2.2.2.1,c.2.1.length≤1048576):impl_copyLoop.f k x=some (x,()):=by
 unfold impl_copyLoop.f
 rw [lett_e,slices_Clone_int_int_f k h1,bnd_s,both_same]
 refine copy_loop (d:=(0,0,[],())) hk x.2.2.1 h2 (fun i rec hi hl=> ?_) (fun rec=> ?_)
 ·have h6:=h3 _ (rd_mem (d:=(0,0,[],())) hi)
  refine(lt_t hi _ _).trans ?_
  simp (disch:=omega) only [lett_e,bnd_s,bnd_chk,br_not,br_t,br_f,br_T,br_F,not_true_eq_false,not_false_eq_true,chk_T,chk_F,chk_eq,eqI_dc,ltI_dc,leI_dc,eqN_dc,notB_dc,andB_dc,andB_t,eqB_dc,notB_t,notB_f,inR_dc,upR_dc,ln_e,app_e,tk_e,dp_e,upd_e,repl_e,natI_n,br_pos,br_neg,addI_n,fitN_T,slices_Clone_int_int_f k h6,fit1 _ hl]
  rfl
 ·refine(lt_e _ _).trans ?_
  refine copy_loop (d:=(0,[],())) hk x.2.2.2.1 h4 (fun i rec hi hl=> ?_) (fun rec=>by simp (disch:=omega) only [lett_e,bnd_s,bnd_chk,br_not,br_t,br_f,br_T,br_F,not_true_eq_false,not_false_eq_true,chk_T,chk_F,chk_eq,eqI_dc,ltI_dc,leI_dc,eqN_dc,notB_dc,andB_dc,andB_t,eqB_dc,notB_t,notB_f,inR_dc,upR_dc,ln_e,app_e,tk_e,dp_e,upd_e,repl_e,natI_n,br_pos,br_neg,addI_n,fitN_T])
  have h6:=h5 _ (rd_mem (d:=(0,[],())) hi)
  simp (disch:=omega) only [lett_e,bnd_s,bnd_chk,br_not,br_t,br_f,br_T,br_F,not_true_eq_false,not_false_eq_true,chk_T,chk_F,chk_eq,eqI_dc,ltI_dc,leI_dc,eqN_dc,notB_dc,andB_dc,andB_t,eqB_dc,notB_t,notB_f,inR_dc,upR_dc,ln_e,app_e,tk_e,dp_e,upd_e,repl_e,natI_n,br_pos,br_neg,addI_n,fitN_T,slices_Clone_int_int_f k h6,fit1 _ hl]
  rfl
theorem impl_copyHall_f {k:Nat} (hk:K0≤k) (x:HallT) (hs:SzH x):impl_copyHall.f k x=some (x,()):=by
 have h1:=impl_copyBelt_f k (x.2.2.2.2.1,x.2.2.2.2.2.1,x.2.2.2.2.2.2.1,x.2.2.2.2.2.2.2.1,()) hs.items
 have h2:=impl_copyStore_f hk (x.2.2.2.2.2.2.2.2.2.2.2.2.1,x.2.2.2.2.2.2.2.2.2.2.2.2.2.1,()) hs.lanes hs.kept
 have h3:=impl_copyLoop_f hk (x.2.2.2.2.2.2.2.2.1,x.2.2.2.2.2.2.2.2.2.1,x.2.2.2.2.2.2.2.2.2.2.1,x.2.2.2.2.2.2.2.2.2.2.2.1,()) hs.trays hs.chutes hs.bags hs.wants hs.told
 unfold impl_copyHall.f
 simp (disch:=omega) only [lett_e,bnd_s,bnd_chk,br_not,br_t,br_f,br_T,br_F,not_true_eq_false,not_false_eq_true,chk_T,chk_F,chk_eq,eqI_dc,ltI_dc,leI_dc,eqN_dc,notB_dc,andB_dc,andB_t,eqB_dc,notB_t,notB_f,inR_dc,upR_dc,ln_e,app_e,tk_e,dp_e,upd_e,repl_e,natI_n,br_pos,br_neg,addI_n,fitN_T,slices_Clone_int_int_f k hs.wait,slices_Clone_impl_Note_f k hs.notes,slices_Clone_impl_Flight_f k hs.flights,slices_Clone_impl_Case_f k hs.cases_,h1,h2,h3]
end Go.Proofs.YtpmjopbgccajgaaGreat.Eng
namespace Go.Proofs.YtpmjopbgccajgaaGreat.Eng
theorem nz_c0 {x:Int×Unit} (h:x.1=0) (l:List (Int×Unit)):nz (x::l)=nz l:=by simp [nz,h]
theorem nz_c1 {x:Int×Unit} (h:x.1≠0) (l:List (Int×Unit)):nz (x::l)=x::nz l:=by simp [nz,h]
structure SzL (l:LoopT):Prop where
 trays:l.1.length≤1048576
 chutes:l.2.2.1.length≤1048576
 bags:∀c∈l.2.2.1,c.2.2.1.length≤1048576
 wants:l.2.2.2.1.length≤1048576
 told:∀w∈l.2.2.2.1,w.2.1.length≤1048576
end Go.Proofs.YtpmjopbgccajgaaGreat.Eng
namespace Go.Proofs.YtpmjopbgccajgaaGreat.Eng
end Go.Proofs.YtpmjopbgccajgaaGreat.Eng
namespace Go.Proofs.YtpmjopbgccajgaaGreat.Eng
end Go.Proofs.YtpmjopbgccajgaaGreat.Eng
namespace Go.Proofs.YtpmjopbgccajgaaGreat.Eng
structure SzS (s:StoreT):Prop where
 lanes:s.2.1.length≤1048576
 kept:∀c∈s.2.1,c.1.length≤1048576
def InS (s:StoreT) (b:Int):Prop:=∃l,l∈s.2.1∧∃y,y∈l.1∧y.1=b
end Go.Proofs.YtpmjopbgccajgaaGreat.Eng
namespace Go.Proofs.YtpmjopbgccajgaaGreat.Eng
theorem rd_set_o {α:Type} {d x:α} {l:List α} {i j:Nat} (h:i≠j):rdP d (l.set i x) j=rdP d l j:=by unfold rdP;simp [h]
end Go.Proofs.YtpmjopbgccajgaaGreat.Eng
namespace Go.Proofs.YtpmjopbgccajgaaGreat.Eng
end Go.Proofs.YtpmjopbgccajgaaGreat.Eng
namespace Go.Proofs.YtpmjopbgccajgaaGreat.Eng
def bk (p:NoteT→Bool) (l:List NoteT):Nat→Option NoteT
 |0=>none
 |i+1=>if p (rdP (0,0,0,0,0,()) l i)=true then some (rdP (0,0,0,0,0,()) l i)else bk p l i
noncomputable def lastN (p:NoteT→Bool) (l:List NoteT):Option NoteT:= @ite _ (NotesP l) (Classical.propDecidable _) (bk p l l.length) none
def ownP (b:Int) (n:NoteT):Bool:=decide (n.2.1=1∧n.2.2.2.1=b)
def abP (w f:Int) (n:NoteT):Bool:=decide ((n.2.1=2∨n.2.1=3)∧n.2.2.1=w∧n.2.2.2.2.1=f)
def puP (b f:Int) (n:NoteT):Bool:=decide ((n.2.1=1∨n.2.1=4)∧n.2.2.2.1=b∧n.2.2.2.2.1=f)
theorem loop_back {R:Type} {l:List NoteT} {p:NoteT→Bool} {k:Nat} (hk:K0≤k) (hl:l.length≤1048576) {F:(Int×Unit→Option R)→Int×Unit→Option R} {hit:NoteT→Option R} {e:Option R}
  (hF:∀(i:Nat) rec,i<l.length→F rec ((i:Int),())=if p (rdP (0,0,0,0,0,()) l i)=true then hit (rdP (0,0,0,0,0,()) l i)else rec ((i:Int)-1,())) (hE:∀rec,F rec (-1,())=e):loopN F k ((l.length:Int)-1,())=match bk p l l.length with|some n=>hit n|none=>e:=by
 unfold K0 at hk
 refine loop_ind (fun f c r=>c=((f:Int)-1,())∧f≤l.length∧r=match bk p l f with|some n=>hit n|none=>e) ?_ l.length k _ _ (by omega) ⟨rfl,Nat.le_refl _,rfl⟩
 rintro f c r ⟨rfl,hf,rfl⟩
 cases f with
 |zero=>left;intro rec;exact hE rec
 |succ i=>
  have e0:((i+1:Nat):Int)-1=(i:Int):=by omega
  rw [e0]
  by_cases h:p (rdP (0,0,0,0,0,()) l i)=true
  ·left;intro rec
   rw [hF i rec (by omega),if_pos h,bk,if_pos h]
  ·right
   refine⟨i,((i:Int)-1,()),rfl,⟨rfl,by omega,?_⟩,fun rec=> ?_⟩
   ·rw [bk,if_neg h]
   ·rw [hF i rec (by omega),if_neg h]
noncomputable def ownM (l:List NoteT) (b:Int):(Int×Int×Unit)×Bool×Unit:=match lastN (ownP b) l with|some n=>((n.2.2.1,n.2.2.2.2.1,()),true,())|none=>((0,0,()),false,())
noncomputable def abM (l:List NoteT) (w f:Int):Prop:=∃n,lastN (abP w f) l=some n∧n.2.1=2
noncomputable def puM (l:List NoteT) (b f:Int):Prop:=∃n,lastN (puP b f) l=some n∧n.2.1=4
noncomputable def flyP (l:List NoteT) (b f:Int):Prop:=(ownM l b).2.1=true∧(ownM l b).1.2.1=f∧abM l (ownM l b).1.1 f∧¬puM l b f
end Go.Proofs.YtpmjopbgccajgaaGreat.Eng
namespace Go.Proofs.YtpmjopbgccajgaaGreat.Eng
def offT (b:Int) (x:Int×Unit):Int×Unit:=if x.1=b then(0,())else x
def offB (b:Int) (l:List (Int×Unit)):List (Int×Unit):=l.filter fun x=>decide (x.1≠b)
def offC (b:Int) (c:Chute):Chute:=(c.1,c.2.1,offB b c.2.2.1,())
def dropLp (l:LoopT) (b:Int):LoopT:=(l.1.map (offT b),l.2.1,l.2.2.1.map (offC b),l.2.2.2.1,())
theorem nz_off {b:Int} (hb:b≠0):∀(l:List (Int×Unit)),nz (l.map (offT b))=offB b (nz l)
 | []=>rfl
 |x::xs=>by
  have ih:=nz_off hb xs
  rw [List.map_cons]
  by_cases h:x.1=b
  ·have h0:x.1≠0:=by omega
   rw [show offT b x=(0,())from if_pos h,nz_c0 rfl,nz_c1 h0,ih]
   unfold offB
   rw [List.filter_cons_of_neg (by simp [h])]
  ·rw [show offT b x=x from if_neg h]
   by_cases h0:x.1=0
   ·rw [nz_c0 h0,nz_c0 h0,ih]
   ·rw [nz_c1 h0,nz_c1 h0,ih]
    unfold offB
    rw [List.filter_cons_of_pos (by simp [h])]
theorem inCh_off (b:Int):∀(l:List Chute),inCh (l.map (offC b))=offB b (inCh l)
 | []=>rfl
 |c::cs=>by
  have ih:=inCh_off b cs
  unfold inCh offB at ih ⊢
  rw [List.map_cons,List.flatMap_cons,List.flatMap_cons,List.filter_append,ih]
  rfl
theorem bagsL_drop {l:LoopT} {b:Int} (hb:b≠0):bagsL (dropLp l b)=offB b (bagsL l):=by
 unfold bagsL dropLp
 dsimp only
 rw [nz_off hb,inCh_off,offB,offB,offB,List.filter_append]
theorem drop_ok {l:LoopT} {b:Int} (h:LoopP l) (hb:b≠0):LoopP (dropLp l b):=by
 obtain⟨p1,p2,p3,p4,p5,p6,p7,p8,p9,p10⟩:=h
 refine⟨by simpa [dropLp]using p1,by simpa [dropLp]using p2,by simpa [dropLp]using p3,p4,fun c hc=> ?_,?_,?_,?_,by simpa [dropLp]using p9,p10⟩
 ·obtain⟨d,hd,rfl⟩:=List.mem_map.1 hc
  obtain⟨q1,q2,q3⟩:=p5 d hd
  refine⟨by simpa [dropLp,offC]using q1,q2,?_⟩
  have:=List.length_filter_le (fun x:Int×Unit=>decide (x.1≠b)) d.2.2.1
  show ((offB b d.2.2.1).length:Int)≤d.2.1
  unfold offB
  omega
 ·have:(l.2.2.1.map (offC b)).map (·.1)=l.2.2.1.map (·.1):=by rw [List.map_map];rfl
  show ((l.2.2.1.map (offC b)).map (·.1)).Nodup
  rw [this];exact p6
 ·rw [bagsL_drop hb];exact fun y hy=>p7 y (List.mem_filter.1 hy).1
 ·rw [bagsL_drop hb];exact p8.filter _
end Go.Proofs.YtpmjopbgccajgaaGreat.Eng
namespace Go.Proofs.YtpmjopbgccajgaaGreat.Eng
noncomputable def gapsM (l:List NoteT):Int:= @ite _ (NotesP l) (Classical.propDecidable _) (if l.length=0 then 0 else(rdP (0,0,0,0,0,()) l (l.length-1)).1-l.length) (-1)
def departP (x:HallT) (f:Int):Prop:=HallP x∧(1≤f∧f≤x.2.2.2.2.2.2.2.2.2.2.2.2.2.2.2.1.length)∧(rdP (0,0,0,false,0,()) x.2.2.2.2.2.2.2.2.2.2.2.2.2.2.2.1 (natI (f-1))).2.2.2.1=false∧(rdP (0,0,0,false,0,()) x.2.2.2.2.2.2.2.2.2.2.2.2.2.2.2.1 (natI (f-1))).2.1≤x.1∧gapsM x.2.2.2.2.2.2.2.2.2.2.2.2.2.2.1=0
theorem spec_CanDepart_f {k:Nat} (hk:K0≤k) (x:HallT) (f:Int) (hs:SzH x):spec_CanDepart.f k x f=chkP (departP x f):=by
 have h1:=spec_HallOk_f hk x hs
 have h2:spec_Gaps.f k x.2.2.2.2.2.2.2.2.2.2.2.2.2.2.1=some (gapsM x.2.2.2.2.2.2.2.2.2.2.2.2.2.2.1,()):=spec_Gaps_f hk _
 have hfl:=hs.flights
 unfold spec_CanDepart.f
 simp (disch:=omega) only [lett_e,bnd_s,bnd_chk,br_not,br_t,br_f,br_T,br_F,not_true_eq_false,not_false_eq_true,chk_T,chk_F,chk_eq,eqI_dc,ltI_dc,leI_dc,eqN_dc,notB_dc,andB_dc,andB_t,eqB_dc,notB_t,notB_f,inR_dc,upR_dc,ln_e,app_e,tk_e,dp_e,upd_e,repl_e,natI_n,br_pos,br_neg,addI_n,fitN_T,h1,h2,spec_l01In_f]
 by_cases hP:HallP x
 case neg=>rw [br_neg hP];exact chk_congr ⟨fun z=>z.elim,fun z=>hP z.1⟩
 rw [br_pos hP]
 by_cases h3:1≤f∧f≤x.2.2.2.2.2.2.2.2.2.2.2.2.2.2.2.1.length
 case neg=>rw [br_neg h3];exact chk_congr ⟨fun z=>z.elim,fun z=>h3 z.2.1⟩
 rw [br_pos h3]
 have hn:natI (f-1)<x.2.2.2.2.2.2.2.2.2.2.2.2.2.2.2.1.length:=by unfold natI;omega
 unfold departP
 rw [subI_id (by omega)]
 generalize rdP (0,0,0,false,0,()) x.2.2.2.2.2.2.2.2.2.2.2.2.2.2.2.1 (natI (f-1))=e at*
 rw [br_pos (by omega)]
 cases hd:e.2.2.2.1 with
 |true=>rw [br_t];exact chk_congr ⟨fun z=>z.elim,fun z=>by cases z.2.2.1⟩
 |false=>
  rw [br_f]
  by_cases h5:e.2.1≤x.1
  ·rw [br_pos (by omega),br_pos h5];exact chk_congr ⟨fun z=>⟨hP,h3,rfl,h5,z⟩,fun z=>z.2.2.2.2⟩
  ·rw [br_pos (by omega),br_neg h5];exact chk_congr ⟨fun z=>z.elim,fun z=>h5 z.2.2.2.1⟩
end Go.Proofs.YtpmjopbgccajgaaGreat.Eng
namespace Go.Proofs.YtpmjopbgccajgaaGreat.Eng
theorem asc_len {l:List (Int×Unit)} {n:Nat} (h:AscP l n):l.length≤n:=by
 have key:∀i,i<l.length→(i:Int)≤(rdP (0,()) l i).1:=by
  intro i
  induction i with
  |zero=>intro hi;exact(h 0 hi).1.1
  |succ i ih=>
   intro hi
   have h1:=ih (by omega)
   have h2:=(h (i+1) hi).2 (by omega)
   rw [Nat.add_sub_cancel]at h2
   omega
 cases e:l.length with
 |zero=>omega
 |succ m=>
  have h1:=key m (by omega)
  have h2:=(h m (by omega)).1.2
  omega
theorem hallP_sz {x:HallT} (h:HallP x):SzH x:=by
 obtain⟨h1,h2,h3,h4,h5,h6,h7,h8,h9,_⟩:=h
 obtain⟨p1,p2,p3,p4,p5,p6,p7,p8,p9,p10⟩:=h5
 dsimp only at p1 p3 p4 p5 p9
 exact {
  wait:=by have:=h2.1;omega
  items:=by have:=h4.2.2.1;dsimp only at this;omega
  trays:=by omega
  chutes:=by omega
  bags:=fun c hc=>by have:=(p5 c hc).2.2;have:=(p5 c hc).2.1;omega
  wants:=by omega
  told:=fun w hw=>by have:=asc_len (p9 w hw).2;omega
  lanes:=by have:=h6.2.1.2;dsimp only at this;omega
  kept:=fun l hl=>by have:=(h6.2.2.1 l hl).1;have:=h6.1;dsimp only at*;omega
  notes:=by have:=h7.1;omega
  flights:=by omega
  cases_:=by omega }
end Go.Proofs.YtpmjopbgccajgaaGreat.Eng
namespace Go.Proofs.YtpmjopbgccajgaaGreat.Eng
def onBelt (x:HallT) (b:Int):Prop:=∃y,y∈x.2.2.2.2.2.2.2.1∧y.1=b
def onTray (x:HallT) (b:Int):Prop:=(b,())∈x.2.2.2.2.2.2.2.2.1
def inChute (x:HallT) (b:Int):Prop:=∃c,c∈x.2.2.2.2.2.2.2.2.2.2.1∧(b,())∈c.2.2.1
def inLane (x:HallT) (b:Int):Prop:=∃l,l∈x.2.2.2.2.2.2.2.2.2.2.2.2.2.1∧∃y,y∈l.1∧y.1=b
theorem hall_move {x z:HallT} {i0:Nat} {e':CaseT} (h:HallP x) (hi:i0<x.2.2.2.2.2.2.2.2.2.2.2.2.2.2.2.2.1.length) (hcs:z.2.2.2.2.2.2.2.2.2.2.2.2.2.2.2.2.1=x.2.2.2.2.2.2.2.2.2.2.2.2.2.2.2.2.1.set i0 e') (hnow:z.1=x.1) (hfl:z.2.2.2.2.2.2.2.2.2.2.2.2.2.2.2.1=x.2.2.2.2.2.2.2.2.2.2.2.2.2.2.2.1)
  (hw:PolicyP z.2.1) (hlim:(60≤z.2.2.1∧z.2.2.1≤2000)∧1≤z.2.2.2.1∧z.2.2.2.1≤40) (hbe:BeltP (z.2.2.2.2.1,z.2.2.2.2.2.1,z.2.2.2.2.2.2.1,z.2.2.2.2.2.2.2.1,())) (hlo:LoopP (z.2.2.2.2.2.2.2.2.1,z.2.2.2.2.2.2.2.2.2.1,z.2.2.2.2.2.2.2.2.2.2.1,z.2.2.2.2.2.2.2.2.2.2.2.1,())) (hst:StoreP (z.2.2.2.2.2.2.2.2.2.2.2.2.1,z.2.2.2.2.2.2.2.2.2.2.2.2.2.1,())) (hno:NotesP z.2.2.2.2.2.2.2.2.2.2.2.2.2.2.1) (hch:z.2.2.2.2.2.2.2.2.2.2.1.length=x.2.2.2.2.2.2.2.2.2.2.1.length)
  (b1:∀b,onBelt z b→b≤x.2.2.2.2.2.2.2.2.2.2.2.2.2.2.2.2.1.length) (b2:∀b,onTray z b→b≤x.2.2.2.2.2.2.2.2.2.2.2.2.2.2.2.2.1.length) (b3:∀b,inChute z b→b≤x.2.2.2.2.2.2.2.2.2.2.2.2.2.2.2.2.1.length) (b4:∀b,inLane z b→b≤x.2.2.2.2.2.2.2.2.2.2.2.2.2.2.2.2.1.length)
  (same:∀j:Nat,j≠i0→j<x.2.2.2.2.2.2.2.2.2.2.2.2.2.2.2.2.1.length→(onBelt z ((j:Int)+1)↔onBelt x ((j:Int)+1))∧(onTray z ((j:Int)+1)↔onTray x ((j:Int)+1))∧(inChute z ((j:Int)+1)↔inChute x ((j:Int)+1))∧(inLane z ((j:Int)+1)↔inLane x ((j:Int)+1)))
  (ht:e'.1=(rdP (0,0,0,0,0,0,0,0,0,0,()) x.2.2.2.2.2.2.2.2.2.2.2.2.2.2.2.2.1 i0).1∧e'.2.1=(rdP (0,0,0,0,0,0,0,0,0,0,()) x.2.2.2.2.2.2.2.2.2.2.2.2.2.2.2.2.1 i0).2.1∧e'.2.2.1=(rdP (0,0,0,0,0,0,0,0,0,0,()) x.2.2.2.2.2.2.2.2.2.2.2.2.2.2.2.2.1 i0).2.2.1) (hc:CaseP z i0 e'):HallP z:=by
 obtain⟨h1,h2,h3,h4,h5,h6,h7,h8,h9,h10,h11,h12,h13,h14,h15⟩:=h
 have hlen:z.2.2.2.2.2.2.2.2.2.2.2.2.2.2.2.2.1.length=x.2.2.2.2.2.2.2.2.2.2.2.2.2.2.2.2.1.length:=by rw [hcs];simp
 refine⟨by rw [hnow];exact h1,hw,hlim,hbe,hlo,hst,hno,by rw [hfl];exact h8,by rw [hlen];exact h9,by rw [hfl,hch];exact h10,fun i hi'=> ?_,fun y hy=>by rw [hlen];exact b1 y.1 ⟨y,hy,rfl⟩,fun y hy=>by rw [hlen];exact b2 y.1 hy,fun c hcm y hy=>by rw [hlen];exact b3 y.1 ⟨c,hcm,hy⟩,fun l hl y hy=>by rw [hlen];exact b4 y.1 ⟨l,hl,y,hy,rfl⟩⟩
 rw [hlen]at hi'
 by_cases e:i=i0
 ·subst e
  have:rdP (0,0,0,0,0,0,0,0,0,0,()) z.2.2.2.2.2.2.2.2.2.2.2.2.2.2.2.2.1 i=e':=by rw [hcs];unfold rdP;simp [hi]
  rw [this]
  exact hc
 ·have er:rdP (0,0,0,0,0,0,0,0,0,0,()) z.2.2.2.2.2.2.2.2.2.2.2.2.2.2.2.2.1 i=rdP (0,0,0,0,0,0,0,0,0,0,()) x.2.2.2.2.2.2.2.2.2.2.2.2.2.2.2.2.1 i:=by rw [hcs];exact rd_set_o (fun q=>e q.symm)
  have tag:∀j,j<x.2.2.2.2.2.2.2.2.2.2.2.2.2.2.2.2.1.length→(rdP (0,0,0,0,0,0,0,0,0,0,()) z.2.2.2.2.2.2.2.2.2.2.2.2.2.2.2.2.1 j).1=(rdP (0,0,0,0,0,0,0,0,0,0,()) x.2.2.2.2.2.2.2.2.2.2.2.2.2.2.2.2.1 j).1∧(rdP (0,0,0,0,0,0,0,0,0,0,()) z.2.2.2.2.2.2.2.2.2.2.2.2.2.2.2.2.1 j).2.1=(rdP (0,0,0,0,0,0,0,0,0,0,()) x.2.2.2.2.2.2.2.2.2.2.2.2.2.2.2.2.1 j).2.1∧(rdP (0,0,0,0,0,0,0,0,0,0,()) z.2.2.2.2.2.2.2.2.2.2.2.2.2.2.2.2.1 j).2.2.1=(rdP (0,0,0,0,0,0,0,0,0,0,()) x.2.2.2.2.2.2.2.2.2.2.2.2.2.2.2.2.1 j).2.2.1:=by
   intro j hj
   by_cases ej:j=i0
   ·subst ej
    have:rdP (0,0,0,0,0,0,0,0,0,0,()) z.2.2.2.2.2.2.2.2.2.2.2.2.2.2.2.2.1 j=e':=by rw [hcs];unfold rdP;simp [hi]
    rw [this];exact ht
   ·have:rdP (0,0,0,0,0,0,0,0,0,0,()) z.2.2.2.2.2.2.2.2.2.2.2.2.2.2.2.2.1 j=rdP (0,0,0,0,0,0,0,0,0,0,()) x.2.2.2.2.2.2.2.2.2.2.2.2.2.2.2.2.1 j:=by rw [hcs];exact rd_set_o (fun q=>ej q.symm)
    rw [this];exact⟨rfl,rfl,rfl⟩
  rw [er]
  obtain⟨c1,c2,c3,c4,c5,c6,c7,c8,c9,c10,c11,c12,c13,c14⟩:=h11 i hi'
  obtain⟨s1,s2,s3,s4⟩:=same i e hi'
  refine⟨c1,by rw [hfl];exact c2,c3,c4,c5,fun j hj=> ?_,by rw [hnow];exact c7,c8,c9,by rw [hfl];exact c10,s1.trans c11,s2.trans c12,s3.trans c13,s4.trans c14⟩
  obtain⟨t1,t2,t3⟩:=tag j (by omega)
  rw [t1,t2,t3]
  exact c6 j hj
end Go.Proofs.YtpmjopbgccajgaaGreat.Eng
namespace Go.Proofs.YtpmjopbgccajgaaGreat.Eng
theorem rd_set_i {α:Type} {d x:α} {l:List α} {i:Nat} (h:i<l.length):rdP d (l.set i x) i=x:=by unfold rdP;simp [h]
end Go.Proofs.YtpmjopbgccajgaaGreat.Eng
