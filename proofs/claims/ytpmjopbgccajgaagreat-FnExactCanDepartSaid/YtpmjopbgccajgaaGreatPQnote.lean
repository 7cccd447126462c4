/- Notes: what the program's functions compute, and merging. No condition. -/
import Derived.Test.YtpmjopbgccajgaaGreatPMerge
import Derived.Test.YtpmjopbgccajgaaGreatEngSortN
import Derived.Test.YtpmjopbgccajgaaGreatD
namespace Go.Proofs.YtpmjopbgccajgaaGreat.Eng
set_option linter.unusedVariables false
set_option linter.unusedSimpArgs false
theorem impl_Gaps_f {k:Nat} (hk:K0≤k) (l:List NoteT) (hl:l.length≤1048576):impl_Gaps.f k l=some (@ite _ (NotesP l) (Classical.propDecidable _) (if l.length=0 then 0 else(rdP (0,0,0,0,0,()) l (l.length-1)).1-l.length) (-1),()):=by
 have h1:=impl_NotesOk_f hk l hl
 unfold impl_Gaps.f
 rw [h1,bnd_chk,br_not]
 by_cases hP:NotesP l
 case neg=>rw [br_neg hP,if_neg hP]
 rw [br_pos hP,if_pos hP]
 have hlen:=hP.1
 by_cases h0:l.length=0
 ·rw [if_pos h0];simp (disch:=omega) only [lett_e,bnd_s,bnd_chk,br_not,br_t,br_f,br_T,br_F,not_true_eq_false,not_false_eq_true,chk_T,chk_F,chk_eq,eqI_dc,ltI_dc,leI_dc,eqN_dc,notB_dc,andB_dc,andB_t,eqB_dc,notB_t,notB_f,inR_dc,upR_dc,ln_e,app_e,tk_e,dp_e,upd_e,repl_e,natI_n,br_pos,br_neg,addI_n,fitN_T]
 ·rw [if_neg h0]
  have hb:=hP.2.1 _ (by rw [rd_lt (show l.length-1<l.length by omega)];exact List.getElem_mem _:rdP (0,0,0,0,0,()) l (l.length-1)∈l)
  have hb1:=hb.1
  simp (disch:=omega) only [lett_e,bnd_s,bnd_chk,br_not,br_t,br_f,br_T,br_F,not_true_eq_false,not_false_eq_true,chk_T,chk_F,chk_eq,eqI_dc,ltI_dc,leI_dc,eqN_dc,notB_dc,andB_dc,andB_t,eqB_dc,notB_t,notB_f,inR_dc,upR_dc,ln_e,app_e,tk_e,dp_e,upd_e,repl_e,natI_n,br_pos,br_neg,addI_nat,addI_nn,subI_n1,subI_nn,fitN_T,List.length_set,List.length_append,List.length_cons,List.length_nil]
  rw [subI_id (by omega)]
end Go.Proofs.YtpmjopbgccajgaaGreat.Eng
