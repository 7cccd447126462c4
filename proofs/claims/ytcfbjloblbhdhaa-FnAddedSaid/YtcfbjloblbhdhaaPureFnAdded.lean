/- FnAdded, as a pure law. No condition. -/
import Derived.Test.YtcfbjloblbhdhaaPQnote
import Derived.Test.YtcfbjloblbhdhaaPQdn
import Derived.Test.YtcfbjloblbhdhaaStFnAdded
import Derived.Test.YtcfbjloblbhdhaaDFnAdded
namespace Go.Proofs.Ytcfbjloblbhdhaa.Eng
set_option linter.unusedVariables false
set_option linter.unusedSimpArgs false
/-- notes added one by one -/
theorem add_mem {x : List NoteT} {n : NoteT} (hx : NotesP x) (hn : NoteP n) (hag : ∀ y ∈ x, y.1 = n.1 → y = n) (hl : x.length < 60) : ∃ z, addM x n = (z, true, ()) ∧ NotesP z ∧ (∀ y, y ∈ z ↔ y ∈ x ∨ y = n) ∧ z.length ≤ x.length + 1 := by
  have hok := addM_ok (l := x) (n := n) hx
  have hasc := notesP_asc hx
  unfold addM at hok ⊢
  rw [if_pos ⟨hx, hn⟩] at hok ⊢
  by_cases h1 : atN n.1 x = n
  · rw [if_pos h1] at hok ⊢
    refine ⟨x, rfl, hx, fun y => ⟨.inl, fun h => h.elim id (fun e => ?_)⟩, by omega⟩
    rcases atN_spec n.1 x with ⟨g1, _⟩ | ⟨g1, _⟩
    · rw [e, ← h1]; exact g1
    · rw [h1] at g1
      have := hn.1.1
      rw [g1] at this
      exact absurd this (by decide)
  · rw [if_neg h1] at hok ⊢
    have h0 : (atN n.1 x).1 = 0 := by
      rcases atN_spec n.1 x with ⟨g1, g2⟩ | ⟨g1, _⟩
      · exact absurd (hag _ g1 g2) h1
      · rw [g1]; rfl
    rw [if_neg (fun z => z.elim (fun z => z h0) (by omega))] at hok ⊢
    exact ⟨_, rfl, hok, fun y => (mem_insN n x).trans or_comm, by rw [insN_len]; omega⟩
theorem rem_in {a b : Int} (ha : 0 ≤ a) (hb : 0 < b) : 0 ≤ remI a b ∧ remI a b < b := ⟨Int.tmod_nonneg b ha, Int.tmod_lt_of_pos a hb⟩
theorem swpN_perm {l : List NoteT} {i j : Nat} (hi : i < l.length) (hj : j < l.length) : ((l.set i (rN l j)).set j (rN l i)).Perm l := by
  unfold rN
  rw [rd_lt hi, rd_lt hj]
  exact List.set_set_perm hi hj
theorem added_pure' {k : Nat} (hk : K0 ≤ k) (b : List (Int × Unit)) (hb0 : b.length ≤ 9223372036854775807) : laws_FnAdded.f k b = some (true, ()) := by
  unfold laws_FnAdded.f laws_big.f
  by_cases hb : b.length ≤ 1048576
  case neg => simp (disch := omega) only [lett_e, bnd_s, bnd_chk, br_not, br_t, br_f, br_T, br_F, not_true_eq_false, not_false_eq_true, chk_T, chk_F, chk_eq, eqI_dc, ltI_dc, leI_dc, eqN_dc, notB_dc, andB_dc, andB_t, eqB_dc, notB_t, notB_f, inR_dc, upR_dc, ln_e, app_e, tk_e, dp_e, upd_e, repl_e, natI_n, br_pos, br_neg, addI_n, fitN_T]
  obtain ⟨l, m, e1, hl, hm, hag, l13, m16⟩ := d_drawNotes hk b hb
  obtain ⟨w, e2, hw, hw2⟩ := d_places hk b hb
  obtain ⟨p, q, e3, hp⟩ := d_drawAdd hk b hb
  have hk' := hk
  unfold K0 at hk'
  have hx : mrgM l m = (mrg l m m.length, true, ()) := mrgM_pos ⟨⟨hl, hm⟩, (agree_conf hl).1 hag, by have := (mrg_len l m m.length).2.1; omega⟩
  have hxl := (mrg_len l m m.length).2.1
  have hxP : NotesP (mrg l m m.length) := by have := mrgM_ok l m; rwa [hx] at this
  have f4 := spec_MergeNotes_f hk l m (by omega) (by omega)
  rw [hx] at f4
  have f8 : impl_AddNote.f k p (q.1, q.2.1, q.2.2.1, q.2.2.2.1, q.2.2.2.2.1, ()) = some (addM p q) := impl_AddNote_f hk p q hp
  have f9 : spec_AddNote.f k p (q.1, q.2.1, q.2.2.1, q.2.2.2.1, q.2.2.2.2.1, ()) = some (addM p q) := spec_AddNote_f hk p q hp
  have s1 := sameNotes_f hk (mrg l m m.length) (by omega)
  have s4 := sameNotes_f hk (addM p q).1 (by
    unfold addM
    split
    · rename_i h
      have := h.1.1
      split
      · exact hp
      · split
        · exact hp
        · rw [insN_len]; omega
    · exact hp)
  have g1 := impl_Gaps_f hk (mrg l m m.length) (by omega)
  have g2 := spec_Gaps_f hk (mrg l m m.length)
  rw [if_pos hxP] at g1 g2
  have n1 : impl_NoteOk.f k (q.1, q.2.1, q.2.2.1, q.2.2.2.1, q.2.2.2.2.1, ()) = chkP (NoteP q) := impl_NoteOk_f k q
  have n2 : spec_NoteOk.f k (q.1, q.2.1, q.2.2.1, q.2.2.2.1, q.2.2.2.2.1, ()) = chkP (NoteP q) := spec_NoteOk_f k q
  have hb2 : eqB (addM p q).2.1 (addM p q).2.1 = true := by unfold eqB; simp
  -- a list with the same notes as both together
  have same : ∀ z : List NoteT, NotesP z → (∀ y, y ∈ z ↔ y ∈ l ∨ y ∈ m) → z = mrg l m m.length := fun z hz h => asc_extN _ _ (notesP_asc hz) (notesP_asc hxP) (fun y => by rw [h, mem_mrg hl hm hag])
  rw [ltI_dc, ln_e, chk_eq, bnd_chk, br_neg (by omega), e1, bnd_s, e2, bnd_s]
  refine loop_rds (P := fun r => r = some (true, ())) (n := m.length) (fun i s => ∃ o : List NoteT, s = (o, (i : Int), ()) ∧ o.Perm m) ⟨m, rfl, List.Perm.refl _⟩ ?_ ?_ (by omega)
  · rintro i s rec hi ⟨o, rfl, ho⟩
    have hol := ho.length_eq
    have hr := rem_in (a := (i : Int)) (b := 12) (by omega) (by omega)
    obtain ⟨r, hr1⟩ := Int.eq_ofNat_of_zero_le hr.1
    have hr2 : r < 12 := by omega
    have hwr := hw2 (rdP (0, ()) w r) (by rw [rd_lt (by omega)]; exact List.getElem_mem _)
    have hsb : subI .i64 (o.length : Int) (i : Int) = ((o.length - i : Nat) : Int) := subI_nn (by omega)
    have hq := rem_in (a := (rdP (0, ()) w r).1) (b := ((o.length - i : Nat) : Int)) hwr.1 (by omega)
    obtain ⟨t, ht1⟩ := Int.eq_ofNat_of_zero_le hq.1
    have ht2 : t < o.length - i := by omega
    have hadd : addI .i64 (i : Int) (t : Int) = ((i + t : Nat) : Int) := addI_nn (by omega)
    refine ⟨_, ⟨(o.set i (rN o (i + t))).set (i + t) (rN o i), rfl, (swpN_perm (by omega) (by omega)).trans ho⟩, ?_⟩
    simp (disch := omega) only [lett_e, bnd_s, bnd_chk, br_not, br_t, br_f, br_T, br_F, not_true_eq_false, not_false_eq_true, chk_T, chk_F, chk_eq, eqI_dc, ltI_dc, leI_dc, eqN_dc, notB_dc, andB_dc, andB_t, eqB_dc, notB_t, notB_f, inR_dc, upR_dc, ln_e, app_e, tk_e, dp_e, upd_e, repl_e, natI_n, br_pos, br_neg, addI_nat, addI_nn, subI_n1, subI_nn, fitN_T, List.length_set, List.length_append, List.length_cons, List.length_nil, hr1, hsb, ht1, hadd, hw]
  · rintro s rec ⟨o, rfl, ho⟩
    have hol := ho.length_eq
    have hmem : ∀ i, i < o.length → NoteP (rN o i) ∧ rN o i ∈ m := fun i hi => by
      have := ho.mem_iff.1 (rN_mem hi)
      exact ⟨hm.2.1 _ this, this⟩
    have hag2 : ∀ (z : List NoteT) (n : NoteT), (∀ y ∈ z, y ∈ l ∨ y ∈ m) → n ∈ m → ∀ y ∈ z, y.1 = n.1 → y = n := fun z n hz hn y hy e => by
      rcases hz y hy with h | h
      · exact hag y h n hn e
      · exact asc_uniq (notesP_asc hm) h hn e
    dsimp only
    rw [ltI_dc, ln_e, br_neg (by omega)]
    refine loop_rds (P := fun r => r = some (true, ())) (n := o.length) (fun i s => ∃ z : List NoteT, s = (z, (i : Int), ()) ∧ NotesP z ∧ z.length ≤ l.length + i ∧ ∀ y, y ∈ z ↔ y ∈ l ∨ y ∈ o.take i) ⟨l, rfl, hl, by omega, fun y => by simp⟩ ?_ ?_ (by omega)
    · rintro i s rec2 hi ⟨z, rfl, hz, hzl, hzm⟩
      obtain ⟨h1, h2⟩ := hmem i hi
      obtain ⟨z', a1, a2, a3, a4⟩ := add_mem hz h1 (hag2 z _ (fun y hy => ((hzm y).1 hy).imp id (fun h => ho.mem_iff.1 (List.mem_of_mem_take h))) h2) (by omega)
      have f : impl_AddNote.f k z ((rdP (0, 0, 0, 0, 0, ()) o i).1, (rdP (0, 0, 0, 0, 0, ()) o i).2.1, (rdP (0, 0, 0, 0, 0, ()) o i).2.2.1, (rdP (0, 0, 0, 0, 0, ()) o i).2.2.2.1, (rdP (0, 0, 0, 0, 0, ()) o i).2.2.2.2.1, ()) = some (addM z (rN o i)) := impl_AddNote_f hk z (rN o i) (by omega)
      rw [a1] at f
      refine ⟨_, ⟨z', rfl, a2, by omega, fun y => ?_⟩, by simp (disch := omega) only [lett_e, bnd_s, bnd_chk, br_not, br_t, br_f, br_T, br_F, not_true_eq_false, not_false_eq_true, chk_T, chk_F, chk_eq, eqI_dc, ltI_dc, leI_dc, eqN_dc, notB_dc, andB_dc, andB_t, eqB_dc, notB_t, notB_f, inR_dc, upR_dc, ln_e, app_e, tk_e, dp_e, upd_e, repl_e, natI_n, br_pos, br_neg, addI_nat, addI_nn, subI_n1, subI_nn, fitN_T, List.length_set, List.length_append, List.length_cons, List.length_nil, f]⟩
      rw [a3, hzm, take_s (d := (0, 0, 0, 0, 0, ())) hi, List.mem_append, List.mem_singleton, or_assoc]
    · rintro s rec2 ⟨z, rfl, hz, hzl, hzm⟩
      rw [List.take_length] at hzm
      have ez : z = mrg l m m.length := same z hz (fun y => by rw [hzm, ho.mem_iff])
      dsimp only
      rw [ltI_dc, br_neg (by omega), subI_id (by omega)]
      refine loop_msr (P := fun r => r = some (true, ())) (fun f s => ∃ z : List NoteT, s = (z, (f : Int) - 1, ()) ∧ f ≤ o.length ∧ NotesP z ∧ z.length ≤ l.length + (o.length - f) ∧ ∀ y, y ∈ z ↔ y ∈ l ∨ y ∈ o.drop f) ?_ (f := o.length) ⟨l, rfl, by omega, hl, by omega, fun y => by simp⟩ (by omega)
      rintro f s rec3 ⟨z2, rfl, hf, hz2, hz2l, hz2m⟩
      cases f with
      | zero =>
        left
        rw [List.drop_zero] at hz2m
        have ez2 : z2 = mrg l m m.length := same z2 hz2 (fun y => by rw [hz2m, ho.mem_iff])
        rw [ez, ez2]
        have hgap : ∀ h0 : ¬ (mrg l m m.length).length = 0, (rdP (0, 0, 0, 0, 0, ()) (mrg l m m.length) ((mrg l m m.length).length - 1)).1 ≤ 10000 ∧ 1 ≤ (rdP (0, 0, 0, 0, 0, ()) (mrg l m m.length) ((mrg l m m.length).length - 1)).1 := fun h0 => by
          have := (hxP.2.1 _ (by rw [rd_lt (show (mrg l m m.length).length - 1 < (mrg l m m.length).length by omega)]; exact List.getElem_mem _ : rdP (0, 0, 0, 0, 0, ()) (mrg l m m.length) ((mrg l m m.length).length - 1) ∈ mrg l m m.length)).1
          omega
        by_cases h0 : (mrg l m m.length).length = 0
        · rw [if_pos h0] at g1 g2
          simp (disch := omega) only [lett_e, bnd_s, bnd_chk, br_not, br_t, br_f, br_T, br_F, not_true_eq_false, not_false_eq_true, chk_T, chk_F, chk_eq, eqI_dc, ltI_dc, leI_dc, eqN_dc, notB_dc, andB_dc, andB_t, eqB_dc, notB_t, notB_f, inR_dc, upR_dc, ln_e, app_e, tk_e, dp_e, upd_e, repl_e, natI_n, br_pos, br_neg, addI_n, fitN_T, e1, f4, e3, f8, f9, s1, s4, g1, g2, n1, n2, hb2, iff_self, dc_True]
        · rw [if_neg h0] at g1 g2
          have := hgap h0
          generalize mrg l m m.length = M at *
          have hn : natI ((M.length : Int) - 1) = M.length - 1 := by unfold natI; omega
          simp (disch := omega) only [lett_e, bnd_s, bnd_chk, br_not, br_t, br_f, br_T, br_F, not_true_eq_false, not_false_eq_true, chk_T, chk_F, chk_eq, eqI_dc, ltI_dc, leI_dc, eqN_dc, notB_dc, andB_dc, andB_t, eqB_dc, notB_t, notB_f, inR_dc, upR_dc, ln_e, app_e, tk_e, dp_e, upd_e, repl_e, natI_n, br_pos, br_neg, addI_n, fitN_T, e1, f4, e3, f8, f9, s1, s4, g1, g2, n1, n2, hb2, iff_self, dc_True, subI_id, hn]
      | succ f =>
        right
        have hd : o.drop f = rN o f :: o.drop (f + 1) := drop_s (by omega)
        obtain ⟨h1, h2⟩ := hmem f (by omega)
        obtain ⟨z', a1, a2, a3, a4⟩ := add_mem hz2 h1 (hag2 z2 _ (fun y hy => ((hz2m y).1 hy).imp id (fun h => ho.mem_iff.1 (List.mem_of_mem_drop h))) h2) (by omega)
        have fa : impl_AddNote.f k z2 ((rdP (0, 0, 0, 0, 0, ()) o f).1, (rdP (0, 0, 0, 0, 0, ()) o f).2.1, (rdP (0, 0, 0, 0, 0, ()) o f).2.2.1, (rdP (0, 0, 0, 0, 0, ()) o f).2.2.2.1, (rdP (0, 0, 0, 0, 0, ()) o f).2.2.2.2.1, ()) = some (addM z2 (rN o f)) := impl_AddNote_f hk z2 (rN o f) (by omega)
        rw [a1] at fa
        have hc : ((f + 1 : Nat) : Int) - 1 = (f : Int) := by omega
        have hs : subI .i64 (f : Int) 1 = (f : Int) - 1 := subI_id (by omega)
        refine ⟨f, _, by omega, ⟨z', rfl, by omega, a2, by omega, fun y => ?_⟩, by simp (disch := omega) only [lett_e, bnd_s, bnd_chk, br_not, br_t, br_f, br_T, br_F, not_true_eq_false, not_false_eq_true, chk_T, chk_F, chk_eq, eqI_dc, ltI_dc, leI_dc, eqN_dc, notB_dc, andB_dc, andB_t, eqB_dc, notB_t, notB_f, inR_dc, upR_dc, ln_e, app_e, tk_e, dp_e, upd_e, repl_e, natI_n, br_pos, br_neg, addI_n, fitN_T, hc, fa, hs]⟩
        rw [a3, hz2m, hd, List.mem_cons, or_assoc]
        exact or_congr Iff.rfl or_comm
theorem added_pure : laws_FnAdded.Pure := fun x hx => ⟨K0, added_pure' (Nat.le_refl _) x.1 (maxLen_le hx.1.1)⟩
end Go.Proofs.Ytcfbjloblbhdhaa.Eng
theorem Go.Proofs.Ytcfbjloblbhdhaa.Pure.FnAdded : Go.Proofs.Ytcfbjloblbhdhaa.Eng.laws_FnAdded.Pure := Go.Proofs.Ytcfbjloblbhdhaa.Eng.added_pure
