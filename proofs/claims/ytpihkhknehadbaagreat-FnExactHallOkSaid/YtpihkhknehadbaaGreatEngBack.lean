/- What a call gives back. No condition. -/
import Derived.Test.YtpihkhknehadbaaGreatEngFn
namespace Go.Proofs.YtpihkhknehadbaaGreat.Eng
open Go.RowKit
set_option linter.unusedVariables false
section
variable {soft : Bool} {R : Type}
theorem labs_drop (n k k' : Nat) : (labs n (k + k')).drop k = labs (n + k) k' := by
  unfold labs
  rw [← List.map_drop, List.drop_range']
  congr 1
  rw [show k + k' - k = k' by omega]; simp
theorem rowCell_len {sm : Nat} {t : Ty} {x : t.den} : (rowCell sm t x).length = idsCell sm t := by
  unfold rowCell idsCell
  cases ho : isOwn sm t with
  | false => rfl
  | true =>
    obtain ⟨us, e⟩ := own_slice ho
    subst e
    rfl
theorem rowCells_len {sm : Nat} : ∀ {ts : Ty} {x : ts.den}, (rowCells sm ts x).length = idsCells sm ts := by
  intro ts
  induction ts with
  | cons t ts _ ih => intro x; simp only [rowCells, idsCells, List.length_append, rowCell_len, ih]
  | _ => intro x; rfl
theorem rowOne_len {m : Md} {t : Ty} {x : t.den} {n : Nat} : (rowOne m t x n).length = idsOne m t := by
  unfold rowOne idsOne
  cases m.ptr with
  | true => simp only [List.length_cons, rowCells_len]; omega
  | false =>
    cases isCons t with
    | true => exact rowCells_len
    | false => exact rowCell_len
/-- the results come in; what is left is what was lent -/
theorem cb_split {Gl : Gh} {w' : World} {vs : List (Md × Ty × AV)} {K : AV → St → Option R} {r : R} {σ : St} : ∀ (n : Nat) (ts : Ty) (y : ts.den) (ms : List Md) (acc : List AV) (N : List Root) (vals : List Value) (j : Nat),
    callBack soft vs K σ n ts y ms acc N = some r → hAll Gl w' ts y ms vals (labs j (idsAll ts ms)) →
    ∃ (ts2 : Ty) (y2 : ts2.den) (ms2 : List Md) (vals1 vals2 : List Value) (rv : List AV) (N1 : List Root), vals = vals1 ++ vals2 ∧ vals1.length = n ∧ rv.length = n ∧ hAll Gl w' ts2 y2 ms2 vals2 (labs (j + N1.length) (idsAll ts2 ms2)) ∧
      (hasRo ts2 ms2 = true → hasRo ts ms = true) ∧
      backEnd vs K σ ts2 y2 ms2 (acc ++ rv) (N ++ N1) = some r ∧
      ∀ G', (hasRo ts ms = true → Lk Gl w' G' w' .free .free) → (∀ i, i < N1.length → Ren soft Gl w' G' (j + i, 0) (σ.roots.length + N.length + i, 0)) →
        InOk G' w' (σ.roots.length + N.length) N1.length N1 (fun G R => ∀ i, i < n → (avR G R w' (rv.getD i .undef)).1 (vals1.getD i undef)) := by
  intro n
  induction n with
  | zero =>
    intro ts y ms acc N vals j h hall
    refine ⟨ts, y, ms, [], vals, [], [], rfl, rfl, rfl, by simpa using hall, id, (by simp only [List.append_nil]; exact h), fun G' _ _ => InOk.none (fun an R' i hi => by omega)⟩
  | succ n ih =>
    intro ts y ms acc N vals j h hall
    cases ts with
    | cons t ts =>
      cases ms with
      | nil => exact hall.elim
      | cons m ms =>
        cases vals with
        | nil => exact hall.elim
        | cons v vals =>
          obtain ⟨h1, h2⟩ := hall
          have hL : (labs j (idsAll (.cons t ts) (m :: ms))).drop (idsOne m t) = labs (j + idsOne m t) (idsAll ts ms) := by
            show (labs j (idsOne m t + idsAll ts ms)).drop _ = _
            rw [labs_drop]
          rw [hL] at h2
          simp only [callBack] at h
          have hrl : (rowOne (intake soft m) t y.1 (σ.roots.length + N.length)).length = idsOne m t := by rw [rowOne_len, intake_ids]
          obtain ⟨ts2, y2, ms2, vals1, vals2, rv, N1, e1, e2, e3, e4, e5, e6, e7⟩ := ih ts y.2 ms _ _ vals (j + idsOne m t) h h2
          refine ⟨ts2, y2, ms2, v :: vals1, vals2, inOne (intake soft m) t y.1 (σ.roots.length + N.length) :: rv, rowOne (intake soft m) t y.1 (σ.roots.length + N.length) ++ N1, by rw [e1]; rfl, by simp [e2], by simp [e3], ?_, fun hh => ?_, ?_, fun G' hf hr => ?_⟩
          · rw [List.length_append, hrl, ← Nat.add_assoc]; exact e4
          · simp only [hasRo]; rw [e5 hh]; simp
          · rw [List.append_assoc, List.append_assoc] at e6; exact e6
          · rw [List.length_append, hrl] at hr ⊢
            have hone : hOne G' w' (intake soft m) t y.1 v (labs (σ.roots.length + N.length) (idsOne m t)) := one_ren h1 (fun hh => hf (by simp [hasRo, hh])) (fun i hi => by
              have a1 := labs_consec j (idsAll (.cons t ts) (m :: ms)) i (by show i < idsOne m t + _; omega)
              have a2 := labs_consec (σ.roots.length + N.length) (idsOne m t) i hi
              rw [a1, a2]
              exact hr i (by omega))
            have i1 := in_one hone (n := σ.roots.length + N.length) (by rw [intake_ids]; exact labs_consec _ _)
            rw [intake_ids] at i1
            have i2 := e7 G' (fun hh => hf (by simp [hasRo, hh])) (fun i hi => by
              have := hr (idsOne m t + i) (by omega)
              rw [List.length_append, hrl, ← Nat.add_assoc, Nat.add_assoc j]
              rw [show σ.roots.length + N.length + (idsOne m t + i) = σ.roots.length + N.length + idsOne m t + i by omega] at this
              exact this)
            rw [List.length_append, hrl, ← Nat.add_assoc] at i2
            obtain ⟨k1, A, k2, k3⟩ := i1.append i2
            refine ⟨k1, A, k2, fun an han R' hR' => ?_⟩
            obtain ⟨g1, g2, g3⟩ := k3 an han R' hR'
            refine ⟨g1, fun i hi => ?_⟩
            cases i with
            | zero => exact g2
            | succ i => exact g3 i (by omega)
    | _ => cases h
/-! ### Puts, told by membership -/
theorem putAt_root {r : Nat} : ∀ (PS : List Put) (q : Root), (∀ cs ss, q.k ≠ .box cs ss) → (∀ q', Put.root r q' ∈ PS → ∀ cs ss, q'.k ≠ .box cs ss) →
    (Put.root r (putAt r PS q) ∈ PS) ∨ ((∀ q', Put.root r q' ∉ PS) ∧ putAt r PS q = q)
  | [], q, _, _ => .inr ⟨fun q' h => (by cases h), rfl⟩
  | .cell r' f v :: PS, q, hb, hP => by
    have e : putAt r (.cell r' f v :: PS) q = putAt r PS q := by
      show putAt r PS (match Nat.beq r' r with | true => setCell q f v | false => q) = _
      rw [setCell_other hb]
      cases Nat.beq r' r <;> rfl
    rw [e]
    rcases putAt_root PS q hb (fun q' h => hP q' (List.mem_cons_of_mem _ h)) with h | ⟨h1, h2⟩
    · exact .inl (List.mem_cons_of_mem _ h)
    · exact .inr ⟨fun q' h => by rcases List.mem_cons.1 h with e | h; (· cases e); (· exact h1 q' h), h2⟩
  | .root r' q1 :: PS, q, hb, hP => by
    have e : putAt r (.root r' q1 :: PS) q = putAt r PS (match Nat.beq r' r with | true => q1 | false => q) := rfl
    rw [e]
    cases hbq : Nat.beq r' r with
    | true =>
      have er := beq_nat hbq
      subst er
      rcases putAt_root PS q1 (hP q1 (by simp)) (fun q' h => hP q' (List.mem_cons_of_mem _ h)) with h | ⟨h1, h2⟩
      · exact .inl (List.mem_cons_of_mem _ h)
      · exact .inl (by simp only [h2]; simp)
    | false =>
      rcases putAt_root PS q hb (fun q' h => hP q' (List.mem_cons_of_mem _ h)) with h | ⟨h1, h2⟩
      · exact .inl (List.mem_cons_of_mem _ h)
      · refine .inr ⟨fun q' h => ?_, h2⟩
        rcases List.mem_cons.1 h with e | h
        · cases e; rw [Nat.beq_refl] at hbq; cases hbq
        · exact h1 q' h
theorem putAt_cells {r ver anc : Nat} : ∀ (PS : List Put) (cs : List AV) (ss : List Nat), ss.length = cs.length → (∀ q', Put.root r q' ∉ PS) →
    ∃ cs' ss', putAt r PS ⟨.box cs ss, ver, anc⟩ = ⟨.box cs' ss', ver, anc⟩ ∧ cs'.length = cs.length ∧ ss'.length = ss.length ∧
      ∀ f, (cs'.getD f .undef = cs.getD f .undef ∧ ss'.getD f 0 = ss.getD f 0 ∧ ¬ ((∃ v, Put.cell r f v ∈ PS) ∧ f < cs.length)) ∨ (f < cs.length ∧ ss.getD f 0 < ss'.getD f 0 ∧ Put.cell r f (cs'.getD f .undef) ∈ PS)
  | [], cs, ss, hl, _ => ⟨cs, ss, rfl, rfl, rfl, fun f => .inl ⟨rfl, rfl, fun h => (by obtain ⟨⟨v, hv⟩, _⟩ := h; cases hv)⟩⟩
  | .root r' q1 :: PS, cs, ss, hl, hP => by
    have er : Nat.beq r' r = false := by
      cases h : Nat.beq r' r with
      | false => rfl
      | true => have e := beq_nat h; subst e; exact absurd (by simp) (hP q1)
    obtain ⟨cs', ss', e, l1, l2, h⟩ := putAt_cells (ver := ver) (anc := anc) PS cs ss hl (fun q' h => hP q' (List.mem_cons_of_mem _ h))
    refine ⟨cs', ss', ?_, l1, l2, fun f => ?_⟩
    · show putAt r PS (match Nat.beq r' r with | true => q1 | false => _) = _
      rw [er]; exact e
    · rcases h f with ⟨h1, h2, h3⟩ | ⟨h1, h2, h3⟩
      · refine .inl ⟨h1, h2, fun ⟨⟨v, hv⟩, hf⟩ => h3 ⟨⟨v, ?_⟩, hf⟩⟩
        rcases List.mem_cons.1 hv with e | hv
        · cases e
        · exact hv
      · exact .inr ⟨h1, h2, List.mem_cons_of_mem _ h3⟩
  | .cell r' f' v :: PS, cs, ss, hl, hP => by
    cases er : Nat.beq r' r with
    | false =>
      obtain ⟨cs', ss', e, l1, l2, h⟩ := putAt_cells (ver := ver) (anc := anc) PS cs ss hl (fun q' h => hP q' (List.mem_cons_of_mem _ h))
      refine ⟨cs', ss', ?_, l1, l2, fun f => ?_⟩
      · show putAt r PS (match Nat.beq r' r with | true => _ | false => _) = _
        rw [er]; exact e
      · rcases h f with ⟨h1, h2, h3⟩ | ⟨h1, h2, h3⟩
        · refine .inl ⟨h1, h2, fun ⟨⟨v', hv⟩, hf⟩ => h3 ⟨⟨v', ?_⟩, hf⟩⟩
          rcases List.mem_cons.1 hv with e | hv
          · cases e; rw [Nat.beq_refl] at er; cases er
          · exact hv
        · exact .inr ⟨h1, h2, List.mem_cons_of_mem _ h3⟩
    | true =>
      have e' := beq_nat er
      subst e'
      obtain ⟨cs', ss', e, l1, l2, h⟩ := putAt_cells (ver := ver) (anc := anc) PS (cs.set f' v) (ss.set f' (ss.getD f' 0 + 1)) (by simp [hl]) (fun q' h => hP q' (List.mem_cons_of_mem _ h))
      rw [List.length_set] at l1 l2 h
      refine ⟨cs', ss', ?_, l1, l2, fun f => ?_⟩
      · show putAt r' PS (match Nat.beq r' r' with | true => setCell _ f' v | false => _) = _
        rw [er]; exact e
      · by_cases hf : f' = f
        · subst hf
          by_cases hlt : f' < cs.length
          · right
            have e1 : (cs.set f' v).getD f' .undef = v := getD_set_eq hlt
            have e2 : (ss.set f' (ss.getD f' 0 + 1)).getD f' 0 = ss.getD f' 0 + 1 := getD_set_eq (by omega)
            rcases h f' with ⟨h1, h2, _⟩ | ⟨_, h2, h3⟩
            · exact ⟨hlt, by rw [h2, e2]; omega, by rw [h1, e1]; simp⟩
            · exact ⟨hlt, by rw [e2] at h2; omega, List.mem_cons_of_mem _ h3⟩
          · left
            rcases h f' with ⟨h1, h2, _⟩ | ⟨h0, _⟩
            · exact ⟨by rw [h1, List.set_eq_of_length_le (by omega)], by rw [h2, List.set_eq_of_length_le (by omega)], fun h => hlt h.2⟩
            · exact absurd h0 hlt
        · have hh := h f
          rw [getD_set_ne hf, getD_set_ne hf] at hh
          rcases hh with ⟨h1, h2, h3⟩ | ⟨h1, h2, h3⟩
          · refine .inl ⟨h1, h2, fun ⟨⟨v', hv⟩, hl'⟩ => h3 ⟨⟨v', ?_⟩, hl'⟩⟩
            rcases List.mem_cons.1 hv with e | hv
            · cases e; exact absurd rfl hf
            · exact hv
          · exact .inr ⟨h1, h2, List.mem_cons_of_mem _ h3⟩
/-- a row with no slices, or read ones that stand -/
theorem flat_ren {Gl G' : Gh} {w' : World} {sm : Nat} {us : Ty} {l : List us.den} {a : Option Addr} {n : Nat} {L L' : Lab} (hd : (Nat.beq sm 2 && us.hasSl) = false) (hsm : sm ≠ 0) (hf : hasRoC sm (.slice us) = true → Lk Gl w' G' w' .free .free) (hl : Lk Gl w' G' w' L L')
    (h : rowG Gl w' (flatV (vw Gl w')) L us l a n) : rowG G' w' (flatV (vw G' w')) L' us l a n := by
  refine rowG_ren hl (fun x b o k hel => ?_) h
  cases hsl : us.hasSl with
  | false => exact el_noSl (fun k t x v hs g => ro_prim hs g) us x b o k hsl hel
  | true =>
    have hro : hasRoC sm (.slice us) = true := by
      rcases sm with _ | _ | _ | n
      · rfl
      · exact hsl
      · rw [hsl] at hd; cases hd
      · rfl
    exact elG_mono us x b o k (fun _ _ _ e => e) (fun k t x v g => flatV_keep (vw_free (hf hro)) k k t x v g) hel
/-- an own row in its own place is given back -/
theorem back_row {G1 Gl G' : Gh} {w w' : World} {R1 Rf : List Root} {sm : Nat} {us : Ty} {y : List us.den} {val : Value} {r a ver anc j : Nat} {o : Bool} {ts : Ty} {l : List ts.den} {y' : List ts.den} (hq : R1[r]? = some ⟨.row o ts l, ver, anc⟩) (hab : Nat.beq a anc = true) (hok : okOwn sm o ts = true)
    (hy : (Ty.slice us).cast (.slice ts) y = some y') (hsm : isOwn sm (.slice us) = true) (hv : (avR G1 R1 w (.sl r a)).1 val) (hc : hCell Gl w' sm (.slice us) y val (j, 0)) (ha : G'.anch r = G1.anch r) (hl : ∀ u, Lk Gl w' G' w' (.of j u) (.of r u))
    (hf : hasRoC sm (.slice us) = true → Lk Gl w' G' w' .free .free) : Chg G1 w G' Rf w' r ⟨.row o ts l, ver, anc⟩ ⟨.row o ts y', ver + 1, anc⟩ := by
  obtain ⟨e, g⟩ := cast_sl hy
  cases e
  have g : y' = y := g
  subst g
  have hc' := cell_ren (soft := false) (G' := G') (p' := (r, 0)) hc hf (fun _ => ⟨rfl, rfl, hl 0, fun s => hl (s + 1)⟩)
  unfold hCell at hc'
  rw [sft_own, hsm] at hc'
  obtain ⟨a0, c, ev, hrow, _⟩ := hc'
  obtain ⟨q, hq', _, hg⟩ := hv
  rw [hq] at hq'; cases hq'
  have ev' := hg (beq_nat hab).symm _ (List.length l) rfl
  rw [ev] at ev'
  simp only [Value.slice.injEq] at ev'
  obtain ⟨e1, e2, e3⟩ := ev'
  have ho : o = (Nat.beq sm 2 && us.hasSl) := eq_of_beq hok
  refine .row o _ l y' (ver + 1) rfl e2 (Nat.lt_succ_self _) ha ?_
  rw [ha, ← e1, ← e3, ho]
  exact hrow
/-- an own row within an own row is given back -/
theorem back_inner {G1 Gl G' : Gh} {w w' : World} {R1 Rf : List Root} {sm : Nat} {us : Ty} {y : List us.den} {val : Value} {r s i f ver anc j : Nat} {ts : Ty} {l : List ts.den} {z : ts.den} (hR : RelR G1 R1 w) (hq : R1[r]? = some ⟨.row true ts l, ver, anc⟩) (hab : Nat.beq s ver = true) (hok : okOwn sm false us = true)
    (hz : setInner ts (rd ts l i) f us y = some z) (hsm : isOwn sm (.slice us) = true) (hv : (avR G1 R1 w (.il r s i f)).1 val) (hc : hCell Gl w' sm (.slice us) y val (j, 0)) (ha : G'.anch r = G1.anch r) (hl : Lk Gl w' G' w' (.of j 0) (.of r (i * ts.size + f + 1)))
    (ho : ∀ s, s ≠ i * ts.size + f + 1 → Lk G1 w G' w' (.of r s) (.of r s)) (hff : Lk G1 w G' w' .free .free) (hf : hasRoC sm (.slice us) = true → Lk Gl w' G' w' .free .free) : Chg G1 w G' Rf w' r ⟨.row true ts l, ver, anc⟩ ⟨.row true ts (upd l i z), ver + 1, anc⟩ := by
  have hu : ∀ b o v, vw G1 w b o = some v → vw G' w' b o = some v := vw_free hff
  have hd : (Nat.beq sm 2 && us.hasSl) = false := (eq_of_beq hok).symm
  have hsm0 : sm ≠ 0 := fun e => by subst e; simp [isOwn] at hsm
  unfold hCell at hc
  rw [hsm] at hc
  obtain ⟨a0, c, ev, hin, _⟩ := hc
  rw [hd] at hin
  have hin' := flat_ren (G' := G') hd hsm0 hf hl hin
  obtain ⟨q, hq', _, hg⟩ := hv
  rw [hq] at hq'; cases hq'
  obtain ⟨h1, h2, b, o, h3, h4, h5⟩ := hg (beq_nat hab).symm true ts l rfl
  have hrow : rowG G1 w (deepV G1 w r) (.of r 0) ts l (G1.anch r).1 (G1.anch r).2 := hR r _ hq
  refine .row true ts l (upd l i z) (ver + 1) rfl len_upd (Nat.lt_succ_self _) ha ?_
  rw [ha]
  obtain ⟨q1, q2⟩ := hrow
  refine ⟨by rw [len_upd]; exact q1, q2.imp id ?_⟩
  rintro ⟨b4, p4, ea4, d1, d2⟩
  rw [h3] at ea4; cases ea4
  have h0 := ho 0 (by omega)
  have hkeep : ∀ k, k ≠ i * ts.size + f → ∀ t x v, deepV G1 w r k t x v → deepV G' w' r k t x v := fun k hk t x v g => deepV_keep hu (ho (k + 1) (by omega)) t x v g
  have hcell : ∀ i' m v, i' < List.length l → m < ts.size → at_ w b (o + i' * ts.size + m) = some v → at_ w' b (o + i' * ts.size + m) = some v := fun i' m v hi' hm e => by
    have hlt := lt_row hi' q1 hm
    have := (d1 _ hlt).1
    rw [← Nat.add_assoc] at this
    rw [(h0 _ _ (lt_of_at e) this).2.1]; exact e
  refine ⟨b, o, h3, fun m hm => ?_, fun i' hi' => ?_⟩
  · obtain ⟨c1, c2, c3⟩ := d1 m hm
    obtain ⟨k1, k2, k3⟩ := h0 _ _ (lt_of_some c3) c1
    exact ⟨k1, (fz_fr k3).trans c2, by rw [k2]; exact c3⟩
  · rw [len_upd] at hi'
    by_cases e : i' = i
    · subst e
      rw [rd_upd_eq hi']
      exact setInner_spec ts _ z f _ _ hz (d2 i' hi') (fun m u hm _ e => hcell i' m u hi' hm e) (fun m hm hne t x v g => hkeep _ (by omega) t x v g) (hcell i' f val hi' h2 h5) ⟨a0, c, ev, hin'⟩
    · rw [rd_upd_ne e]
      refine elG_move ts _ b _ _ b _ _ (fun m v hm e' => hcell i' m v hi' hm e') (fun k hk t x v g => hkeep _ (fun e' => ?_) t x v g) (d2 i' hi')
      have := el_apart (f := f) (n := 1) e hk (by omega)
      omega
/-- how a lent part's labels are turned back -/
def BackLab (G1 : Gh) (w : World) (Gl G' : Gh) (w' : World) (R1 : List Root) (j : Nat) : Sr → Prop
  | .row r => G'.anch r = G1.anch r ∧ ∀ u, Lk Gl w' G' w' (.of j u) (.of r u)
  | .inn r i f => G'.anch r = G1.anch r ∧ ∀ ts l ver a, R1[r]? = some ⟨.row true ts l, ver, a⟩ → Lk Gl w' G' w' (.of j 0) (.of r (i * ts.size + f + 1)) ∧ ∀ s, s ≠ i * ts.size + f + 1 → Lk G1 w G' w' (.of r s) (.of r s)
  | _ => True
/-- a root's put that is good -/
def PutOk (G1 : Gh) (w : World) (G' : Gh) (Rf : List Root) (w' : World) (R1 : List Root) (ids : List Nat) (p : Put) : Prop :=
  ∃ r q q', p = .root r q' ∧ R1[r]? = some q ∧ (∀ cs ss, q.k ≠ .box cs ss) ∧ (∀ cs ss, q'.k ≠ .box cs ss) ∧ r ∈ ids ∧ Chg G1 w G' Rf w' r q q'
theorem cell_back {G1 Gl G' : Gh} {w w' : World} {R1 Rf : List Root} {tm : List AV} {sm : Nat} {t : Ty} {y : t.den} {v : AV} {val : Value} {j : Nat} {ps : List Put} (hR : RelR G1 R1 w) (h : backCell ⟨tm, R1⟩ sm t y v = some ps) (hv : (avR G1 R1 w v).1 val) (hc : hCell Gl w' sm t y val (j, 0))
    (hb : ∀ s ∈ srcCell sm t v, BackLab G1 w Gl G' w' R1 j s) (hff : Lk G1 w G' w' .free .free) (hf : hasRoC sm t = true → Lk Gl w' G' w' .free .free) : ∀ p ∈ ps, PutOk G1 w G' Rf w' R1 (srcIds (srcCell sm t v)) p := by
  unfold backCell at h
  cases ho : isOwn sm t with
  | false => rw [ho] at h; cases h; intro p hp; cases hp
  | true =>
    rw [ho] at h
    obtain ⟨us, e⟩ := own_slice ho
    subst e
    cases v with
    | nl ts => cases h; intro p hp; cases hp
    | sl r a =>
      simp only at h
      split at h
      · rename_i o ts l ver b hq
        split at h
        · rename_i y' hcond hy'
          cases h
          intro p hp
          obtain ⟨c1, c2⟩ := and2 hcond
          have hsrc : srcCell sm (.slice us) (.sl r a) = [.row r] := by simp [srcCell, ho]
          obtain ⟨l1, l2⟩ := hb (.row r) (by rw [hsrc]; simp)
          have e : a = b := beq_nat c1
          subst e
          refine ⟨r, _, _, List.mem_singleton.1 hp, hq, fun _ _ e => (by cases e), fun _ _ e => (by cases e), (by rw [hsrc]; simp [srcIds, Sr.id]), back_row hq c1 c2 hy' ho hv hc l1 l2 hf⟩
        · cases h
      · cases h
    | il r s i f =>
      simp only at h
      split at h
      · rename_i ts l ver b hq
        split at h
        · rename_i z hcond hz
          cases h
          intro p hp
          obtain ⟨c1, c2⟩ := and2 hcond
          have hsrc : srcCell sm (.slice us) (.il r s i f) = [.inn r i f] := by simp [srcCell, ho]
          obtain ⟨l1, l2⟩ := hb (.inn r i f) (by rw [hsrc]; simp)
          obtain ⟨l3, l4⟩ := l2 ts l ver b hq
          exact ⟨r, _, _, List.mem_singleton.1 hp, hq, fun _ _ e => (by cases e), fun _ _ e => (by cases e), (by rw [hsrc]; simp [srcIds, Sr.id]), back_inner hR hq c1 c2 hz ho hv hc l1 l3 l4 hff hf⟩
        · cases h
      · cases h
    | _ => cases h
def BackLabs (G1 : Gh) (w : World) (Gl G' : Gh) (w' : World) (R1 : List Root) : Nat → List Sr → Prop
  | _, [] => True
  | j, s :: ss => BackLab G1 w Gl G' w' R1 j s ∧ BackLabs G1 w Gl G' w' R1 (j + 1) ss
theorem BackLabs.append {G1 Gl G' : Gh} {w w' : World} {R1 : List Root} : ∀ {ss ts : List Sr} {j : Nat}, BackLabs G1 w Gl G' w' R1 j (ss ++ ts) → BackLabs G1 w Gl G' w' R1 j ss ∧ BackLabs G1 w Gl G' w' R1 (j + ss.length) ts
  | [], ts, j, h => ⟨trivial, by simpa using h⟩
  | s :: ss, ts, j, h => by
    obtain ⟨h1, h2⟩ := h
    obtain ⟨h3, h4⟩ := BackLabs.append h2
    exact ⟨⟨h1, h3⟩, by rw [List.length_cons, show j + (ss.length + 1) = j + 1 + ss.length by omega]; exact h4⟩
theorem PutOk.mono {G1 G' : Gh} {w w' : World} {R1 Rf : List Root} {ids ids' : List Nat} {p : Put} (h : PutOk G1 w G' Rf w' R1 ids p) (hi : ∀ r ∈ ids, r ∈ ids') : PutOk G1 w G' Rf w' R1 ids' p := by
  obtain ⟨r, q, q', h1, h2, h3, h4, h5, h6⟩ := h
  exact ⟨r, q, q', h1, h2, h3, h4, hi r h5, h6⟩
theorem srcIds_append : ∀ (ss ts : List Sr), srcIds (ss ++ ts) = srcIds ss ++ srcIds ts
  | [], _ => rfl
  | s :: ss, ts => by simp [srcIds, srcIds_append ss ts]
theorem cells_back {G1 Gl G' : Gh} {w w' : World} {R1 Rf : List Root} {tm : List AV} {sm : Nat} (hR : RelR G1 R1 w) (hff : Lk G1 w G' w' .free .free) : ∀ {ts : Ty} {y : ts.den} {a : AV} {vals : List Value} {j : Nat} {ps : List Put}, backCells ⟨tm, R1⟩ sm ts y a = some ps → (avR G1 R1 w a).2 vals →
    hCells Gl w' sm ts y vals (labs j (idsCells sm ts)) → BackLabs G1 w Gl G' w' R1 j (srcCells sm ts a) → (hasRoCs sm ts = true → Lk Gl w' G' w' .free .free) → ∀ p ∈ ps, PutOk G1 w G' Rf w' R1 (srcIds (srcCells sm ts a)) p := by
  intro ts
  induction ts with
  | nil =>
    intro y a vals j ps h _ _ _ _
    cases a with
    | nil => cases h; intro p hp; cases hp
    | _ => cases h
  | cons t ts _ ih =>
    intro y a vals j ps h hv hc hb hf
    cases a with
    | cons v a =>
      obtain ⟨v0, vs', e, g1, g2⟩ := hv
      subst e
      obtain ⟨v1, vs1, e1, c1, c2⟩ := hc
      cases e1
      simp only [backCells] at h
      split at h
      · rename_i p1 p2 h1 h2
        cases h
        obtain ⟨b1, b2⟩ := BackLabs.append hb
        rw [srcCell_len] at b2
        have hd : (labs j (idsCells sm (.cons t ts))).drop (idsCell sm t) = labs (j + idsCell sm t) (idsCells sm ts) := labs_drop j _ _
        rw [hd] at c2
        intro p hp
        simp only [srcCells, srcIds_append]
        rcases List.mem_append.1 hp with hp | hp
        · have hc1 : isOwn sm t = true → (labs j (idsCells sm (.cons t ts))).headD (0, 0) = (j, 0) := fun ho => (labs_consec j _).head (by simp [idsCells, idsCell, ho]; omega)
          have hcell : hCell Gl w' sm t y.1 v0 (j, 0) := by
            cases ho : isOwn sm t with
            | true => rw [hc1 ho] at c1; exact c1
            | false => unfold hCell at c1 ⊢; rw [ho] at c1 ⊢; exact c1
          refine (cell_back hR h1 g1 hcell (fun s hs => ?_) hff (fun hh => hf (by simp [hasRoCs, hh])) p hp).mono (fun r hr => List.mem_append_left _ hr)
          cases hsl : srcCell sm t v with
          | nil => rw [hsl] at hs; cases hs
          | cons s0 ss =>
            have hlen := srcCell_len sm t v
            rw [hsl] at hs b1 hlen
            have : ss = [] := by
              have h1 : idsCell sm t ≤ 1 := by unfold idsCell; split <;> simp
              simp at hlen
              cases ss with
              | nil => rfl
              | cons _ _ => simp at hlen; omega
            subst this
            rw [List.mem_singleton.1 hs]; exact b1.1
        · refine (ih h2 g2 c2 b2 (fun hh => ?_) p hp).mono (fun r hr => List.mem_append_right _ hr)
          cases ts with
          | nil => exact hf (by simp only [hasRoCs] at hh ⊢; rw [hh]; simp)
          | cons _ _ => exact hf (by simp only [hasRoCs] at hh ⊢; rw [hh]; simp)
          | _ => exact c2.elim
      · cases h
    | _ => cases h
  | _ => intro y a vals j ps h; cases a <;> cases h
theorem kill_back {G1 G' : Gh} {w w' : World} {R1 Rf : List Root} {tm : List AV} : ∀ (rs : List Nat), (∀ r ∈ rs, ∀ q, R1[r]? = some q → ∀ cs ss, q.k ≠ .box cs ss) → ∀ p ∈ killPuts ⟨tm, R1⟩ rs, PutOk G1 w G' Rf w' R1 rs p
  | [], _, p, hp => by cases hp
  | r :: rs, hb, p, hp => by
    have ih := kill_back (G1 := G1) (G' := G') (w := w) (w' := w') (Rf := Rf) (tm := tm) rs (fun r' hr => hb r' (List.mem_cons_of_mem _ hr))
    simp only [killPuts] at hp
    split at hp
    · rename_i q hq
      rcases List.mem_cons.1 hp with e | hp
      · have hnb := hb r (by simp) q hq
        refine ⟨r, q, killOne q, e, hq, hnb, ?_, by simp, ?_⟩
        · intro cs ss e'
          unfold killOne at e'
          cases hk : q.k with
          | box _ _ => exact hnb _ _ hk
          | _ => rw [hk] at e'; first | exact hnb _ _ e' | cases e'
        · cases hk : q.k with
          | dead =>
            have e : killOne q = q := by unfold killOne; rw [hk]
            rw [e]
            exact .kept (fun h => absurd (by rw [hk]; rfl) h) (fun _ h => absurd (by rw [hk]; rfl) h)
          | box cs ss => exact absurd hk (hnb cs ss)
          | row o ts l =>
            have e : killOne q = ⟨.dead, q.ver + 1, q.anc + 1⟩ := by unfold killOne; rw [hk]
            rw [e]
            exact .dead _ hnb rfl (Nat.lt_succ_self _) (Nat.lt_succ_self _)
          | fro ts l =>
            have e : killOne q = ⟨.dead, q.ver + 1, q.anc + 1⟩ := by unfold killOne; rw [hk]
            rw [e]
            exact .dead _ hnb rfl (Nat.lt_succ_self _) (Nat.lt_succ_self _)
      · exact (ih p hp).mono (fun r hr => List.mem_cons_of_mem _ hr)
    · exact (ih p hp).mono (fun r hr => List.mem_cons_of_mem _ hr)
end
end Go.Proofs.YtpihkhknehadbaaGreat.Eng
