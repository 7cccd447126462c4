/- A call comes to what its function's pure form says. No condition. -/
import Derived.Test.YtpihkhknehadbaaGreatEngSig
namespace Go.Proofs.YtpihkhknehadbaaGreat.Eng
open Go.RowKit
set_option linter.unusedVariables false
section
variable {P : Program} {soft : Bool} {R : Type}
/-- what is read only behind a call -/
theorem eaten {G : Gh} {σ : St} {w : World} (hR : RelR G σ.roots w) (b : Bool) (ro : List Nat) (hrow : ∀ r ∈ ro, ∀ q, σ.roots[r]? = some q → isRowK q.k = true) :
    ∃ G1, RelR G1 (match b with | true => eat false σ ro | false => σ).roots w ∧ Evo G σ.roots w G1 (match b with | true => eat false σ ro | false => σ).roots w ∧ G1.anch = G.anch ∧ (∀ p o r s, G1.own p o = .of r s → G.own p o = .of r s) ∧
      (∀ p o, G1.own p o = .free → G.own p o = .free ∨ ∃ r s, G.own p o = .of r s ∧ r ∈ ro) ∧ (∀ p o, G1.own p o = .hid → G.own p o = .hid) ∧ (b = true → ∀ p o r s, G.own p o = .of r s → r ∈ ro → G1.own p o = .free) ∧ (∀ p o, G.own p o = .free → G1.own p o = .free) ∧
      (match b with | true => eat false σ ro | false => σ).tmps = σ.tmps ∧ (match b with | true => eat false σ ro | false => σ).roots.length = σ.roots.length ∧ (∀ r, r ∉ ro → (match b with | true => eat false σ ro | false => σ).roots[r]? = σ.roots[r]?) ∧
      (∀ r f n, boxCells (match b with | true => eat false σ ro | false => σ) r f n = boxCells σ r f n) := by
  cases b with
  | false => exact ⟨G, hR, Evo.refl _ _ _, rfl, fun _ _ _ _ h => h, fun _ _ h => .inl h, fun _ _ h => h, fun h => (by cases h), fun _ _ h => h, rfl, rfl, fun _ _ => rfl, fun _ _ _ => rfl⟩
  | true =>
    let τ : Nat → Nat → Lab := fun r s => if memN r ro then .free else .of r s
    obtain ⟨h1, h2⟩ := eat_spec (own := false) (rs := ro) (τ := τ) hR hrow (fun r hr s => by
      have : memN r ro = false := by
        cases e : memN r ro with
        | false => rfl
        | true => exact absurd (mem_memN.1 e) hr
      simp [τ, this]) (fun _ r hr s => by simp [τ, mem_memN.2 hr])
    have key : ∀ p o, (relab G τ).own p o = match G.own p o with | .of r s => if memN r ro then .free else .of r s | l => l := fun p o => by
      simp only [relab]
      cases G.own p o <;> rfl
    refine ⟨relab G τ, h1, h2, rfl, fun p o r s h => ?_, fun p o h => ?_, fun p o h => ?_, fun _ p o r s h hr => ?_, fun p o h => ?_, eat_tmps _ _ _, eat_len _ _ _, fun r hr => ?_, fun r f n => ?_⟩
    · rw [key] at h
      cases e : G.own p o with
      | of r' s' =>
        rw [e] at h
        simp only at h
        split at h
        · cases h
        · exact h
      | _ => rw [e] at h; cases h
    · rw [key] at h
      cases e : G.own p o with
      | of r' s' =>
        rw [e] at h
        simp only at h
        split at h
        · rename_i hm; exact .inr ⟨r', s', rfl, mem_memN.1 hm⟩
        · cases h
      | free => exact .inl rfl
      | hid => rw [e] at h; cases h
    · rw [key] at h
      cases e : G.own p o with
      | of r' s' =>
        rw [e] at h
        simp only at h
        split at h <;> cases h
      | free => rw [e] at h; cases h
      | hid => rfl
    · rw [key, h]
      simp [mem_memN.2 hr]
    · rw [key, h]
    · simp only; rw [eat_get, if_neg hr]
    · unfold boxCells
      simp only
      rw [eat_get]
      by_cases hr : r ∈ ro
      · rw [if_pos hr]
        cases hq : σ.roots[r]? with
        | none => rfl
        | some q =>
          have := hrow r hr q hq
          obtain ⟨k, ver, anc⟩ := q
          cases k with
          | row o ts l => rfl
          | _ => cases this
      · rw [if_neg hr]
open Classical in
theorem callSig_ok {f : Nat} {g : Sig} (hF : FnOk P f g) {k : Nat} {as : List AV} {σ : St} {K : AV → St → Option R} {r : R} (h : callSig soft k g as σ K = some r) : CallsTo P f as σ K r := by
  intro G w args hR hlen hv
  unfold callSig at h
  split at h
  case h_2 => cases h
  rename_i x hout
  obtain ⟨hcond, h⟩ := chk_some h
  obtain ⟨c1, c2⟩ := and2 hcond
  have c1 := nodup_nodupN.1 c1
  have c2 := apart_apartN.1 c2
  obtain ⟨y, hy, h⟩ := Option.bind_eq_some_iff.1 h
  obtain ⟨tm, Rs⟩ := σ
  obtain ⟨s1, s2, s3, s4⟩ := src_all hout
  obtain ⟨G1, hR1, hE1, hA1, f1, f2, f3, f4, f5, ht1, hl1, hr1, hbx1⟩ := eaten hR (hasRo g.res g.rm) (roAll ⟨tm, Rs⟩ g.params g.pm as) (fun r hr q hq => by
    obtain ⟨o, ts, l, ver, a, e⟩ := roAll_row hr
    rw [hq] at e; cases e; rfl)
  generalize hσ1 : (match hasRo g.res g.rm with | true => eat false ⟨tm, Rs⟩ (roAll ⟨tm, Rs⟩ g.params g.pm as) | false => ⟨tm, Rs⟩) = σ1 at hR1 hE1 ht1 hl1 hr1 hbx1
  have h : callBack soft (withTys g.params g.pm as) K σ1 g.n g.res y g.rm [] [] = some r := by rw [← hσ1]; exact h
  obtain ⟨tm1, R1⟩ := σ1
  simp only at ht1 hl1 hr1 hbx1 hR1 hE1
  have ht1 := ht1.symm
  subst ht1
  have hsrc1 : srcAll ⟨tm, R1⟩ g.params g.pm as = srcAll ⟨tm, Rs⟩ g.params g.pm as := srcAll_box hbx1
  generalize hro : roAll ⟨tm, Rs⟩ g.params g.pm as = ro at c2 f2 f4 hr1
  generalize hss : srcAll ⟨tm, Rs⟩ g.params g.pm as = ss at c1 c2 s1 s2 s3 hsrc1
  -- sources, in what stands behind the eating
  have hnro : ∀ r, r ∈ srcIds ss → r ∉ ro := fun r h1 h2 => c2 r h2 h1
  have hfnd : ∀ (k : Nat) (x : Sr) (r : Nat), ss[k]? = some x → r ∈ x.id → findS ss 0 r = some (k, x) := fun k x r h1 h2 => by
    have := findS_at (j := 0) c1 h1 h2
    rwa [Nat.zero_add] at this
  -- what the call sees
  have hcfree : ∀ b o, G.own b o = .free → (callG G Rs ss ro).own b o = .free := fun b o h => by simp only [callG, h]
  have hchid : ∀ b o, G.own b o = .hid → (callG G Rs ss ro).own b o = .hid := fun b o h => by simp only [callG, h]
  have hcof : ∀ b o r s, G.own b o = .of r s → (callG G Rs ss ro).own b o = callLab G Rs ss ro r s b o := fun b o r s h => by simp only [callG, h]
  have hcro : ∀ b o r s, G.own b o = .of r s → r ∈ ro → (callG G Rs ss ro).own b o = .free := fun b o r s h hr => by
    rw [hcof b o r s h]
    unfold callLab
    rw [findS_none (fun h => hnro r h hr)]
    simp [hr]
  have hcout : ∀ b o r s, G.own b o = .of r s → r ∉ srcIds ss → (callG G Rs ss ro).own b o = .free ∨ (callG G Rs ss ro).own b o = .hid := fun b o r s h hr => by
    rw [hcof b o r s h]
    unfold callLab
    rw [findS_none hr]
    simp only
    split
    · exact .inl rfl
    · exact .inr rfl
  have hall : hAll (callG G Rs ss ro) w g.params x g.pm args (labs 0 (idsAll g.params g.pm)) := by
    refine out_all (tm := tm) hR (fun b o _ e => ⟨hcfree b o e, rfl, rfl⟩) hout hlen.symm hv (fun r hr s b o _ e => ⟨hcro b o r s e (hro ▸ hr), rfl, rfl⟩) ?_
    rw [hss]
    refine tgtL_of (fun k x hk => ?_)
    have hlt : k < ss.length := (List.getElem?_eq_some_iff.1 hk).1
    have hlab : (labs 0 (idsAll g.params g.pm)).getD k (0, 0) = (k, 0) := by
      have := labs_consec 0 (idsAll g.params g.pm) k (by omega)
      rwa [Nat.zero_add] at this
    rw [hlab]
    cases x with
    | nul => rfl
    | row r =>
      refine ⟨rfl, fun s b o _ e => ⟨?_, rfl, rfl⟩⟩
      rw [hcof b o r s e]
      unfold callLab
      rw [hfnd k _ r hk (by simp [Sr.id])]
    | inn r i f =>
      intro o ts l v a hq b p _ e
      refine ⟨?_, rfl, rfl⟩
      rw [hcof b p r _ e]
      unfold callLab
      rw [hfnd k _ r hk (by simp [Sr.id])]
      simp [hq]
    | box r f n =>
      refine ⟨rfl, fun b o ha j hj _ e => ?_⟩
      rw [hcof b _ r 0 e]
      unfold callLab
      rw [hfnd k _ r hk (by simp [Sr.id])]
      simp only
      rw [if_pos ⟨o, ha, j, hj, rfl⟩]
  refine (hF.2 k x y hy (callG G Rs ss ro) w args hall).mono (fun e w' he => ?_)
  cases e with
  | returned out =>
    obtain ⟨outs, Gl, eout, hol, hall', hO⟩ := he
    obtain ⟨ts2, y2, ms2, vals1, vals2, rv, N1, e1, e2, e3, e4, e5, e6, e7⟩ := cb_split g.n g.res y g.rm [] [] (outs ++ lentV g.pm args) 0 h hall'
    obtain ⟨ev1, ev2⟩ := List.append_inj e1 (by rw [hol, e2])
    subst ev1; subst ev2
    simp only [List.nil_append, Nat.zero_add] at e4 e6
    unfold backEnd at e6
    split at e6
    case h_2 => cases e6
    rename_i ps N2 hback
    simp only [List.length_nil, Nat.add_zero] at e7
    -- the labels behind the call
    let T : Nat → Nat → Lab := fun j s => if j < N1.length then newT soft R1.length j s else labAt (lentL R1 tm (withTys g.params g.pm as) (R1.length + N1.length)) (j - N1.length) s
    let GG : (Nat → Option Addr × Nat) → Gh := fun an => backG G1 (callG G Rs ss ro) Gl w T an
    have hlk : ∀ an j s, Lk Gl w' (GG an) w' (.of j s) (T j s) := fun an j s => back_lk hO j s
    -- what was not the call's stands
    have hkeep : ∀ an L, (∀ b o, b < w.heap.size → G1.own b o = L → (callG G Rs ss ro).own b o = .free ∨ (callG G Rs ss ro).own b o = .hid) → Lk G1 w (GG an) w' L L := fun an L h => back_same hO h
    have kfree : ∀ an, Lk G1 w (GG an) w' .free .free := fun an => hkeep an .free (fun b o _ e => by
      rcases f2 b o e with h | ⟨r, s, h, hr⟩
      · exact .inl (hcfree b o h)
      · exact .inl (hcro b o r s h hr))
    have khid : ∀ an, Lk G1 w (GG an) w' .hid .hid := fun an => hkeep an .hid (fun b o _ e => .inr (hchid b o (f3 b o e)))
    have kout : ∀ an r, r ∉ srcIds ss → ∀ s, Lk G1 w (GG an) w' (.of r s) (.of r s) := fun an r hr s => hkeep an _ (fun b o _ e => hcout b o r s (f1 b o r s e) hr)
    have kro : ∀ an, hasRo g.res g.rm = true → Lk Gl w' (GG an) w' .free .free := fun an hh b o hb e => by
      refine ⟨?_, rfl, rfl⟩
      show (if _ then _ else _) = _
      by_cases hc : b < w.heap.size ∧ ((callG G Rs ss ro).own b o = .free ∨ (callG G Rs ss ro).own b o = .hid)
      · rw [if_pos hc]
        obtain ⟨h1, h2 | h2⟩ := hc
        · cases hg : G.own b o with
          | free => exact f5 b o hg
          | hid => rw [hchid b o hg] at h2; cases h2
          | of r s =>
            rw [hcof b o r s hg] at h2
            exact f4 hh b o r s hg (callLab_free h2)
        · have := (hO.hid b o h1 h2).1
          rw [e] at this; cases this
      · rw [if_neg hc, e]
    have kinn : ∀ an (k r i f : Nat), ss[k]? = some (Sr.inn r i f) → ∀ ts l ver a, R1[r]? = some ⟨.row true ts l, ver, a⟩ → ∀ s, s ≠ i * ts.size + f + 1 → Lk G1 w (GG an) w' (.of r s) (.of r s) := fun an k r i f hk ts l ver a hq s hs => hkeep an _ (fun b o _ e => by
      have hm : r ∈ srcIds ss := mem_srcIds.2 ⟨k, _, hk, by simp [Sr.id]⟩
      rw [hr1 r (hnro r hm)] at hq
      rw [hcof b o r s (f1 b o r s e)]
      unfold callLab
      rw [hfnd k _ r hk (by simp [Sr.id])]
      simp [hq, hs])
    have kbox : ∀ an (k r f n : Nat), ss[k]? = some (Sr.box r f n) → ∀ b o, b < w.heap.size → G1.own b o = .of r 0 → ¬ inBox G r b o f n → (GG an).own b o = .of r 0 ∧ at_ w' b o = at_ w b o ∧ fz w' b o = fz w b o := fun an k r f n hk b o hb e hn => by
      have hc : (callG G Rs ss ro).own b o = .hid := by
        rw [hcof b o r 0 (f1 b o r 0 e)]
        unfold callLab
        rw [hfnd k _ r hk (by simp [Sr.id])]
        simp only
        rw [if_neg hn]
      obtain ⟨g1, g2⟩ := back_keep (G1 := G1) (T := T) (an := an) hO hb (.inr hc)
      exact ⟨g1.trans e, g2⟩
    -- what was lent
    have hvR : ∀ i, i < as.length → (avR G1 R1 w (as.getD i .undef)).1 (args.getD i undef) := fun i hi => (avR_evo hE1 _).1 _ (hv i hi)
    have hsrow : ∀ r ∈ rowIds ss, ∃ q, R1[r]? = some q ∧ ∀ cs ss, q.k ≠ .box cs ss := fun r hr => by
      obtain ⟨o, ts, l, ver, a, hq⟩ := s1 r hr
      refine ⟨_, by rw [hr1 r (hnro r (rowIds_sub hr))]; exact hq, fun cs ss e => (by cases e)⟩
    have hback' : ∀ an, (∀ r, r < R1.length → an r = G1.anch r) → BackAll G1 w Gl (GG an) w' R1 tm (withTys g.params g.pm as) N1.length (R1.length + N1.length) := fun an han => by
      refine backAll_of (R0 := Rs) (T := T) (hlk an) hout (fun x hx => ?_) (fun i hi s => ?_)
      · rw [hsrc1] at hx
        obtain ⟨k, hk⟩ := List.mem_iff_getElem?.1 hx
        cases x with
        | row r =>
          obtain ⟨q, hq, _⟩ := hsrow r (rowIds_mem.2 (.inl hx))
          exact han r (List.getElem?_eq_some_iff.1 hq).1
        | inn r i f =>
          obtain ⟨q, hq, _⟩ := hsrow r (rowIds_mem.2 (.inr ⟨i, f, hx⟩))
          exact ⟨han r (List.getElem?_eq_some_iff.1 hq).1, kinn an k r i f hk⟩
        | _ => trivial
      · show (if _ then _ else _) = _
        rw [if_neg (by omega), Nat.add_sub_cancel_left]
    obtain ⟨i2, _, _, _⟩ := all_back (Rf := []) hR1 (kfree G1.anch) hout hlen.symm hvR hback e4 (hback' G1.anch (fun _ _ => rfl)) (by rw [hsrc1]; exact hsrow) (fun hh => kro _ (e5 hh))
    have i1 := e7 (GG G1.anch) (kro _) (fun i hi => by
      rw [Nat.zero_add]
      refine ren_of (T := T) (hlk G1.anch) (fun s => ?_)
      show (if _ then _ else _) = _
      rw [if_pos hi])
    obtain ⟨k1, A, k2, k3⟩ := i1.append i2
    let an : Nat → Option Addr × Nat := fun r => if r < R1.length then G1.anch r else A.getD (r - R1.length) (none, 0)
    have han : ∀ r, r < R1.length → an r = G1.anch r := fun r hr => if_pos hr
    obtain ⟨Rf, hRf⟩ : ∃ Rf, Rf = puts ps R1 ++ (N1 ++ N2) := ⟨_, rfl⟩
    have hfin : ∀ j q, (N1 ++ N2)[j]? = some q → Rf[R1.length + j]? = some q := fun j q hq => by
      rw [hRf, List.getElem?_append_right (by rw [puts_len]; omega), puts_len, Nat.add_sub_cancel_left]; exact hq
    obtain ⟨g1, g2, g3⟩ := k3 an (fun j hj => by
      show (if _ then _ else _) = _
      rw [if_neg (by omega), Nat.add_sub_cancel_left]) Rf hfin
    have hGG : (⟨(GG G1.anch).own, an⟩ : Gh) = GG an := rfl
    rw [hGG] at g1 g2 g3
    obtain ⟨_, p1, p2, p3⟩ := all_back (Rf := Rf) hR1 (kfree an) hout hlen.symm hvR hback e4 (hback' an han) (by rw [hsrc1]; exact hsrow) (fun hh => kro _ (e5 hh))
    rw [hsrc1] at p2 p3
    have hget : ∀ r q, R1[r]? = some q → Rf[r]? = some (putAt r ps q) := fun r q hq => by
      have hlt := (List.getElem?_eq_some_iff.1 hq).1
      rw [hRf, List.getElem?_append_left (by rw [puts_len]; exact hlt), puts_get, hq]; rfl
    have proot : ∀ r q', Put.root r q' ∈ ps → ∃ q, R1[r]? = some q ∧ (∀ cs ss, q.k ≠ .box cs ss) ∧ (∀ cs ss, q'.k ≠ .box cs ss) ∧ Chg G1 w (GG an) Rf w' r q q' := fun r q' hm => by
      rcases p1 _ hm with ⟨_, _, _, e⟩ | ⟨ids, r0, q0, q0', e, h1, h2, h3, _, h4⟩
      · cases e
      · cases e; exact ⟨q0, h1, h2, h3, h4⟩
    obtain ⟨m1, m2⟩ := chg_spec (G' := GG an) (Rf := Rf) (w' := w') hR1 ⟨hO.os, hO.tape, hO.output, hO.size, kfree an, khid an⟩ (fun r q hq => by
      have hlt := (List.getElem?_eq_some_iff.1 hq).1
      refine ⟨_, hget r q hq, ?_⟩
      by_cases hrs : r ∈ srcIds ss
      · obtain ⟨k, z, hk, hz⟩ := mem_srcIds.1 hrs
        have hzm : z ∈ ss := List.mem_of_getElem? hk
        have rowCase : r ∈ rowIds ss → (∃ q', Put.root r q' ∈ ps) → Chg G1 w (GG an) Rf w' r q (putAt r ps q) := fun hrow hput => by
          obtain ⟨q0, hq0, hnb⟩ := hsrow r hrow
          rw [hq] at hq0; cases hq0
          rcases putAt_root ps q hnb (fun q' hm => (proot r q' hm).choose_spec.2.2.1) with hm | ⟨hm, _⟩
          · obtain ⟨q0, h1, _, _, h4⟩ := proot _ _ hm
            rw [hq] at h1; cases h1; exact h4
          · obtain ⟨q', hm'⟩ := hput; exact absurd hm' (hm q')
        cases z with
        | nul => cases hz
        | row r' =>
          have e : r = r' := by simpa [Sr.id] using hz
          subst e
          exact rowCase (rowIds_mem.2 (.inl hzm)) (p2 _ hzm)
        | inn r' i f =>
          have e : r = r' := by simpa [Sr.id] using hz
          subst e
          exact rowCase (rowIds_mem.2 (.inr ⟨i, f, hzm⟩)) (p2 _ hzm)
        | box r' f n =>
          have e : r = r' := by simpa [Sr.id] using hz
          subst e
          obtain ⟨cs, sts, ver, a, hqb, hfn⟩ := s2 r f n hzm
          rw [← hr1 r (hnro r hrs), hq] at hqb
          cases hqb
          have hro := hR1 r _ hq
          obtain ⟨hl0, b, o, ea, hcs⟩ := hro
          obtain ⟨cs', ss', eput, l1, l2, hf⟩ := putAt_cells (r := r) (ver := ver) (anc := a) ps cs sts hl0 (fun q' hm => by
            obtain ⟨q0, h1, h2, _⟩ := proot r q' hm
            rw [hq] at h1; cases h1; exact h2 _ _ rfl)
          rw [eput]
          refine .box cs cs' sts ss' rfl l1 l2 (han r hlt) (fun b' o' ea' f' => ?_)
          rw [ea] at ea'; cases ea'
          have hnin : ¬ (f ≤ f' ∧ f' < f + n) → ¬ inBox G r b (o + f') f n := fun hn hin => by
            obtain ⟨O, h1, j, hj, e⟩ := hin
            rw [← hA1, ea] at h1; cases h1
            exact hn ⟨by omega, by omega⟩
          have hput : ∀ v, Put.cell r f' v ∈ ps → (GG an).own b (o + f') = .of r 0 ∧ w'.frozen? ⟨b, o + f', none⟩ = false ∧ ∃ val, at_ w' b (o + f') = some val ∧ (avR (GG an) Rf w' v).1 val := fun v hm => by
            obtain ⟨b1, o1, val, d1, d2, d3, d4, d5⟩ := g3 r f' v hm
            rw [ea] at d1; cases d1
            exact ⟨d2, d3, val, d4, d5⟩
          refine ⟨fun hlt' => ?_, ?_⟩
          · by_cases hin : f ≤ f' ∧ f' < f + n
            · obtain ⟨v, hm⟩ := p2 _ hzm (f' - f) (by omega)
              rw [show f + (f' - f) = f' by omega] at hm
              exact ⟨(hput v hm).1, (hput v hm).2.1⟩
            · obtain ⟨d1, d2, v, d3, d4⟩ := hcs f' hlt'
              obtain ⟨n1, n2, n3⟩ := kbox an k r f n hk b (o + f') (lt_of_at d3) d1 (hnin hin)
              exact ⟨n1, (fz_fr n3).trans d2⟩
          · rcases hf f' with ⟨d1, d2, d3⟩ | ⟨d1, d2, d3⟩
            · refine .inl ⟨d2, d1, fun ho hb => ?_⟩
              by_cases hin : f ≤ f' ∧ f' < f + n
              · exfalso
                obtain ⟨v, hm⟩ := p2 _ hzm (f' - f) (by omega)
                rw [show f + (f' - f) = f' by omega] at hm
                exact d3 ⟨⟨v, hm⟩, by omega⟩
              · obtain ⟨n1, n2, _⟩ := kbox an k r f n hk b (o + f') hb ho (hnin hin)
                exact ⟨n1, n2⟩
            · exact .inr ⟨d2, (hput _ d3).2.2⟩
      · rw [putAt_other (fun p hp e => hrs (by have := p3 p hp; rwa [e] at this))]
        exact .kept (fun _ => han r hlt) (fun _ _ s => kout an r hrs s)) (fun r q hr hq => by
      rw [hRf, List.getElem?_append_right (by rw [puts_len]; exact hr), puts_len] at hq
      have := g1 _ q hq
      rwa [show R1.length + (r - R1.length) = r by omega] at this)
    refine ⟨tupAV rv, Rf, GG an, by rw [hRf]; exact e6, m1, ?_, hE1.trans m2⟩
    rw [eout]
    exact tup_av (by rw [e3, hol]) (fun i hi => g2 i (by omega))
  | _ => exact he.elim
end
end Go.Proofs.YtpihkhknehadbaaGreat.Eng
