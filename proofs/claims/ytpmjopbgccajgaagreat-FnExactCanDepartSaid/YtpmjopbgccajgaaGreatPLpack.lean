/- Repacked pieces. No condition. -/
import Derived.Test.YtpmjopbgccajgaaGreatPLfit
import Derived.Test.YtpmjopbgccajgaaGreatD
namespace Go.Proofs.YtpmjopbgccajgaaGreat.Eng
set_option linter.unusedVariables false
set_option linter.unusedSimpArgs false
theorem srt_uniq {l a b:List Pc} (hn:(l.map (·.1)).Nodup) (h1:a.Perm l) (h2:b.Perm l) (s1:Srt ltP a) (s2:Srt ltP b):a=b:=by
 refine List.Perm.eq_of_pairwise (le:=fun x y=>¬ltP y x) (fun x y hx hy hxy hyx=> ?_) s1 s2 (h1.trans h2.symm)
 have hx':=h1.mem_iff.1 hx
 have hy':=h2.mem_iff.1 hy
 obtain⟨i,hi,rfl⟩:=List.getElem_of_mem hx'
 obtain⟨j,hj,rfl⟩:=List.getElem_of_mem hy'
 have hkey:l[i].1=l[j].1:=by unfold ltP at hxy hyx;omega
 unfold List.Nodup at hn
 rw [List.pairwise_iff_getElem]at hn
 rcases Nat.lt_trichotomy i j with h|h|h
 ·have:=hn i j (by simpa using hi) (by simpa using hj) h
  simp only [List.getElem_map]at this
  exact absurd hkey this
 ·subst h;rfl
 ·have:=hn j i (by simpa using hj) (by simpa using hi) h
  simp only [List.getElem_map]at this
  exact absurd hkey.symm this
theorem FFm_perm {m:LimT} {l a b:List Pc} (h1:a.Perm l) (h2:b.Perm l) (s1:Srt ltP a) (s2:Srt ltP b):FFm m a=FFm m b:=by
 by_cases hl:PiecesP l
 ·rw [srt_uniq hl.2.2 h1 h2 s1 s2]
 ·unfold FFm
  rw [if_neg (fun z=>hl ((piecesP_perm h1).1 z.2)),if_neg (fun z=>hl ((piecesP_perm h2).1 z.2))]
theorem ltP_tot (x y:Pc):¬ltP x y∨¬ltP y x:=by unfold ltP;omega
noncomputable def srtL (l:List Pc):List Pc:=l.mergeSort fun x y=>dc (¬ltP y x)
theorem srtL_perm (l:List Pc):(srtL l).Perm l:=List.mergeSort_perm l _
theorem srtL_srt (l:List Pc):Srt ltP (srtL l):=by
 have:=List.pairwise_mergeSort (le:=fun x y:Pc=>dc (¬ltP y x)) (by intro a b c h1 h2;rw [dc_true]at*;exact ordP.ntrans _ _ _ h1 h2) (by intro a b;rw [Bool.or_eq_true,dc_true,dc_true];exact(ltP_tot a b).symm) l
 exact this.imp fun h=>dc_true.1 h
noncomputable def repM (m:LimT) (l:List Pc):List Bx:=FFm m (srtL l)
theorem Clone_Pc_f (k:Nat) {l:List Pc} (h:l.length≤1048576):slices_Clone_impl_Piece.f k l=some (l,()):=by
 unfold slices_Clone_impl_Piece.f
 rw [nilB_same _ _ _ (by rintro rfl;simp (disch:=omega) only [lett_e,bnd_s,bnd_chk,br_not,br_t,br_f,br_T,br_F,not_true_eq_false,not_false_eq_true,chk_T,chk_F,chk_eq,eqI_dc,ltI_dc,leI_dc,eqN_dc,notB_dc,andB_dc,andB_t,eqB_dc,notB_t,notB_f,inR_dc,upR_dc,ln_e,app_e,tk_e,dp_e,upd_e,repl_e,natI_n,br_pos,br_neg,addI_n,fitN_T,fit0 (l:=([]:List Pc)) (by simp)];rfl)]
 have:=fit0 h
 simp (disch:=omega) only [lett_e,bnd_s,bnd_chk,br_not,br_t,br_f,br_T,br_F,not_true_eq_false,not_false_eq_true,chk_T,chk_F,chk_eq,eqI_dc,ltI_dc,leI_dc,eqN_dc,notB_dc,andB_dc,andB_t,eqB_dc,notB_t,notB_f,inR_dc,upR_dc,ln_e,app_e,tk_e,dp_e,upd_e,repl_e,natI_n,br_pos,br_neg,addI_n,fitN_T,this,List.nil_append]
theorem impl_Repack_f {k:Nat} (hk:K0≤k) (m:LimT) (l:List Pc) (hl:l.length≤1048576):impl_Repack.f k m l=some (repM m l,()):=by
 obtain⟨z,h1,h2,h3⟩:=stab_f hk l hl
 have h4:=impl_FirstFit_f hk (m.1,m.2.1,()) z (by rw [h2.length_eq];exact hl)
 unfold impl_Repack.f
 rw [Clone_Pc_f k hl,bnd_s,h1,bnd_s,h4,bnd_s]
 unfold repM
 rw [show (m.1,m.2.1,())=m from rfl,FFm_perm h2 (srtL_perm l) h3 (srtL_srt l)]
end Go.Proofs.YtpmjopbgccajgaaGreat.Eng
