/- FnMerged, as a pure law. No condition. -/
import Derived.Test.YtcfbjloblbhdhaaPQnote
import Derived.Test.YtcfbjloblbhdhaaPQdn
import Derived.Test.YtcfbjloblbhdhaaStFnMerged
import Derived.Test.YtcfbjloblbhdhaaDFnAdded
import Derived.Test.YtcfbjloblbhdhaaDFnMerged
namespace Go.Proofs.Ytcfbjloblbhdhaa.Eng
set_option linter.unusedVariables false
set_option linter.unusedSimpArgs false
theorem mrgP_of {a b : List NoteT} (ha : NotesP a) (hb : NotesP b) (hag : agree a b) (hl : a.length + b.length ≤ 60) : mrgP a b := ⟨⟨ha, hb⟩, (agree_conf ha).1 hag, by have := (mrg_len a b b.length).2.1; omega⟩
theorem agree_self {a : List NoteT} (ha : NotesP a) : agree a a := fun x hx y hy e => asc_uniq (notesP_asc ha) hx hy e
theorem mrg_self {a : List NoteT} (ha : NotesP a) : mrg a a a.length = a :=
  asc_extN _ _ (mrg_asc ha ha) (notesP_asc ha) (fun x => by rw [mem_mrg ha ha (agree_self ha), or_self])
theorem keep_notes {a b : List NoteT} (hb : NotesP b) : NotesP (keep (unkQ a) b) :=
  notesP_of (Nat.le_trans (keep_len _ _) hb.1) (fun x hx => hb.2.1 x (mem_keep.1 hx).1) ((notesP_asc hb).sublist List.filter_sublist)
theorem mrg_unk {a b : List NoteT} (ha : NotesP a) (hb : NotesP b) (hag : agree a b) : mrg a (keep (unkQ a) b) (keep (unkQ a) b).length = mrg a b b.length := by
  have hk := keep_notes (a := a) hb
  have hag2 : agree a (keep (unkQ a) b) := fun x hx y hy e => hag x hx y (mem_keep.1 hy).1 e
  refine asc_extN _ _ (mrg_asc ha hk) (mrg_asc ha hb) (fun x => ?_)
  rw [mem_mrg ha hk hag2, mem_mrg ha hb hag, mem_keep]
  constructor
  · rintro (h | h)
    · exact .inl h
    · exact .inr h.1
  · rintro (h | h)
    · exact .inl h
    · by_cases q : unkQ a x
      · obtain ⟨y, hy, e⟩ := q
        rw [← hag y hy x h e]; exact .inl hy
      · exact .inr ⟨h, q⟩
theorem mrg_count (a b : List NoteT) (ha : NotesP a) : ∀ i, i ≤ b.length → (mrg a b i).length = a.length + (keep (unkQ a) (b.take i)).length
  | 0, _ => by simp [mrg, keep]
  | i + 1, hi => by
    have ih := mrg_count a b ha i (by omega)
    obtain ⟨k1, k2⟩ := keep_s (d := (0, 0, 0, 0, 0, ())) (q := unkQ a) (show i < b.length by omega)
    rw [mrg]
    by_cases q : unkQ a (rN b i)
    · rw [if_neg (fun z => (at_unk ha _).1 z q), k1 q, ih]
    · rw [if_pos ((at_unk ha _).2 q), k2 q, insN_len, ih]; simp; omega
theorem merged_pure' {k : Nat} (hk : K0 ≤ k) (b : List (Int × Unit)) (hb0 : b.length ≤ 9223372036854775807) : laws_FnMerged.f k b = some (true, ()) := by
  unfold laws_FnMerged.f laws_big.f
  by_cases hb : b.length ≤ 1048576
  case neg => simp (disch := omega) only [lett_e, bnd_s, bnd_chk, br_not, br_t, br_f, br_T, br_F, not_true_eq_false, not_false_eq_true, chk_T, chk_F, chk_eq, eqI_dc, ltI_dc, leI_dc, eqN_dc, notB_dc, andB_dc, andB_t, eqB_dc, notB_t, notB_f, inR_dc, upR_dc, ln_e, app_e, tk_e, dp_e, upd_e, repl_e, natI_n, br_pos, br_neg, addI_n, fitN_T]
  obtain ⟨l, m, e1, hl, hm, hag, l13, m16⟩ := d_drawNotes hk b hb
  obtain ⟨p, q, e2, hp, hq⟩ := d_drawMerge hk b hb
  have hx : mrgM l m = (mrg l m m.length, true, ()) := mrgM_pos (mrgP_of hl hm hag (by omega))
  have hy : mrgM m l = (mrg l m m.length, true, ()) := by rw [mrgM_pos (mrgP_of hm hl (agree_comm hag) (by omega)), mrg_comm hl hm hag]
  have hz : mrgM l l = (l, true, ()) := by rw [mrgM_pos (mrgP_of hl hl (agree_self hl) (by omega)), mrg_self hl]
  have hu : unkM l m = keep (unkQ l) m := if_pos ⟨hl, hm⟩
  have hun := keep_notes (a := l) hm
  have hul := keep_len (unkQ l) m
  have hag2 : agree l (keep (unkQ l) m) := fun x hx y hy e => hag x hx y (mem_keep.1 hy).1 e
  have hv : mrgM l (keep (unkQ l) m) = (mrg l m m.length, true, ()) := by rw [mrgM_pos (mrgP_of hl hun hag2 (by omega)), mrg_unk hl hm hag]
  have hxl := (mrg_len l m m.length).2.1
  have hxP : NotesP (mrg l m m.length) := by have := mrgM_ok l m; rwa [hx] at this
  have hsub : ∀ x, x ∈ keep (unkQ l) m → x ∈ mrg l m m.length := fun x h => (mem_mrg hl hm hag x).2 (.inr (mem_keep.1 h).1)
  have hag3 : agree (mrg l m m.length) (keep (unkQ l) m) := fun x h y h2 e => asc_uniq (notesP_asc hxP) h (hsub y h2) e
  have ht : mrgM (mrg l m m.length) (keep (unkQ l) m) = (mrg l m m.length, true, ()) := by
    rw [mrgM_pos (mrgP_of hxP hun hag3 (by omega))]
    congr 1
    refine asc_extN _ _ (mrg_asc hxP hun) (notesP_asc hxP) (fun x => ?_)
    rw [mem_mrg hxP hun hag3]
    exact ⟨fun h => h.elim id (hsub x), .inl⟩
  have hlast : unkM (mrg l m m.length) m = [] := by
    unfold unkM
    rw [if_pos ⟨hxP, hm⟩]
    refine List.eq_nil_iff_forall_not_mem.2 (fun x h => ?_)
    have := mem_keep.1 h
    exact this.2 ⟨x, (mem_mrg hl hm hag x).2 (.inr this.1), rfl⟩
  have hcount : (mrg l m m.length).length = l.length + (keep (unkQ l) m).length := by
    have := mrg_count l m hl m.length (Nat.le_refl _)
    rwa [List.take_length] at this
  have f1 := impl_MergeNotes_f hk l m (by omega) (by omega)
  have f2 := impl_MergeNotes_f hk m l (by omega) (by omega)
  have f3 := impl_MergeNotes_f hk l l (by omega) (by omega)
  have f4 := spec_MergeNotes_f hk l m (by omega) (by omega)
  have f5 := impl_NotesOk_f hk (mrg l m m.length) (by omega)
  have f6 := impl_Unknown_f hk l m (by omega) (by omega)
  have f7 := impl_MergeNotes_f hk l (keep (unkQ l) m) (by omega) (by omega)
  have f8 := impl_MergeNotes_f hk p q hp hq
  have f9 := spec_MergeNotes_f hk p q hp hq
  have f10 := impl_MergeNotes_f hk (mrg l m m.length) (keep (unkQ l) m) (by omega) (by omega)
  have f11 := spec_Unknown_f hk l m (by omega) (by omega)
  have f12 := impl_Unknown_f hk (mrg l m m.length) m (by omega) (by omega)
  rw [hx] at f1 f4; rw [hy] at f2; rw [hz] at f3; rw [hu] at f6 f11; rw [hv] at f7; rw [ht] at f10; rw [hlast] at f12
  have s1 := sameNotes_f hk (mrg l m m.length) (by omega)
  have s2 := sameNotes_f hk l (by omega)
  have s3 := sameNotes_f hk (keep (unkQ l) m) (by omega)
  have s4 := sameNotes_f hk (mrgM p q).1 (by have := mrgM_len p q; omega)
  have s5 := sameNotes_f hk ([] : List NoteT) (by simp)
  have hP5 : chkP (NotesP (mrg l m m.length)) = chkP True := chk_pos hxP
  rw [hP5] at f5
  have ha : addI .i64 (l.length : Int) ((keep (unkQ l) m).length : Int) = ((mrg l m m.length).length : Int) := by rw [addI_nn (by omega), hcount]
  have hb2 : eqB (mrgM p q).2.1 (mrgM p q).2.1 = true := by unfold eqB; simp
  simp (disch := omega) only [lett_e, bnd_s, bnd_chk, br_not, br_t, br_f, br_T, br_F, not_true_eq_false, not_false_eq_true, chk_T, chk_F, chk_eq, eqI_dc, ltI_dc, leI_dc, eqN_dc, notB_dc, andB_dc, andB_t, eqB_dc, notB_t, notB_f, inR_dc, upR_dc, ln_e, app_e, tk_e, dp_e, upd_e, repl_e, natI_n, br_pos, br_neg, addI_n, fitN_T, e1, e2, f1, f2, f3, f4, f5, f6, f7, f8, f9, f10, f11, f12, s1, s2, s3, s4, s5, ha, hb2, iff_self, dc_True]
theorem merged_pure : laws_FnMerged.Pure := fun x hx => ⟨K0, merged_pure' (Nat.le_refl _) x.1 (maxLen_le hx.1.1)⟩
end Go.Proofs.Ytcfbjloblbhdhaa.Eng
theorem Go.Proofs.Ytcfbjloblbhdhaa.Pure.FnMerged : Go.Proofs.Ytcfbjloblbhdhaa.Eng.laws_FnMerged.Pure := Go.Proofs.Ytcfbjloblbhdhaa.Eng.merged_pure
