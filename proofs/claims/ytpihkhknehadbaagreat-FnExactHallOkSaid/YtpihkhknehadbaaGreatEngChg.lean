/- Roots that are changed, one by one. No condition. -/
import Derived.Test.YtpihkhknehadbaaGreatEngHand
namespace Go.Proofs.YtpihkhknehadbaaGreat.Eng
open Go.RowKit
set_option linter.unusedVariables false
/-- how a root comes from an earlier one -/
inductive Chg (G : Gh) (w : World) (G' : Gh) (Rf : List Root) (w' : World) (r : Nat) (q : Root) : Root → Prop where
  | kept (h : q.k.hd ≠ none → G'.anch r = G.anch r) (hl : (∀ ts l, q.k ≠ .fro ts l) → q.k.hd ≠ none → ∀ s, Lk G w G' w' (.of r s) (.of r s)) : Chg G w G' Rf w' r q q
  | dead (q' : Root) (hb : ∀ cs ss, q.k ≠ .box cs ss) (hk : q'.k = .dead) (hv : q.ver < q'.ver) (ha : q.anc < q'.anc) : Chg G w G' Rf w' r q q'
  | row (o : Bool) (ts : Ty) (l l' : List ts.den) (v : Nat) (hk : q.k = .row o ts l) (hl : List.length l' = List.length l) (hv : q.ver < v) (ha : G'.anch r = G.anch r)
      (hr : rowG G' w' (cvOf G' w' r o) (.of r 0) ts l' (G'.anch r).1 (G'.anch r).2) : Chg G w G' Rf w' r q ⟨.row o ts l', v, q.anc⟩
  | box (cs cs' : List AV) (ss ss' : List Nat) (hk : q.k = .box cs ss) (hl : cs'.length = cs.length) (hs : ss'.length = ss.length) (ha : G'.anch r = G.anch r)
      (hc : ∀ b o, (G.anch r).1 = some ⟨b, o, none⟩ → ∀ f, (f < cs.length → G'.own b (o + f) = .of r 0 ∧ w'.frozen? ⟨b, o + f, none⟩ = false) ∧
        ((ss'.getD f 0 = ss.getD f 0 ∧ cs'.getD f .undef = cs.getD f .undef ∧ (G.own b (o + f) = .of r 0 → b < w.heap.size → G'.own b (o + f) = .of r 0 ∧ at_ w' b (o + f) = at_ w b (o + f))) ∨
          (ss.getD f 0 < ss'.getD f 0 ∧ ∃ v, at_ w' b (o + f) = some v ∧ (avR G' Rf w' (cs'.getD f .undef)).1 v))) : Chg G w G' Rf w' r q ⟨.box cs' ss', q.ver, q.anc⟩
/-- what stands outside the roots -/
structure Out (G : Gh) (w : World) (G' : Gh) (w' : World) : Prop where
  os : w'.os = w.os
  tape : w'.tape = w.tape
  output : w'.output = w.output
  size : w.heap.size ≤ w'.heap.size
  free : Lk G w G' w' .free .free
  hid : Lk G w G' w' .hid .hid
theorem Out.refl (G : Gh) (w : World) : Out G w G w := ⟨rfl, rfl, rfl, Nat.le_refl _, Lk.refl _ _ _, Lk.refl _ _ _⟩
theorem Out.trans {G G' G'' : Gh} {w w' w'' : World} (h : Out G w G' w') (k : Out G' w' G'' w'') : Out G w G'' w'' :=
  ⟨k.os.trans h.os, k.tape.trans h.tape, k.output.trans h.output, Nat.le_trans h.size k.size, h.free.trans h.size k.free, h.hid.trans h.size k.hid⟩
theorem hd_row {k : RK} {t : Ty} {n : Nat} (h : k.hd = some (false, t, n)) : ∀ cs ss, k ≠ .box cs ss := fun cs ss e => by subst e; cases h
theorem Chg.rle {G G' : Gh} {w w' : World} {Rf : List Root} {r : Nat} {q q' : Root} {R : List Root} (hq : rootOk G R w r q) (h : Chg G w G' Rf w' r q q') : RLe G w G' w' r q q' := by
  cases h with
  | kept h hl =>
    cases hh : q.k.hd with
    | none =>
      have hk : q.k = .dead := by
        cases e : q.k with
        | dead => rfl
        | _ => rw [e] at hh; cases hh
      exact ⟨Nat.le_refl _, Nat.le_refl _, fun _ => .inl hh, fun t n e => (by rw [hh] at e; cases e), q.le_refl, fun _ _ _ e => (by rw [hk] at e; cases e), fun _ _ _ _ e => (by rw [hk] at e; cases e)⟩
    | some z =>
      have ha := h (by rw [hh]; simp)
      by_cases hf : ∃ ts l, q.k = .fro ts l
      · obtain ⟨ts, l, e⟩ := hf
        exact ⟨Nat.le_refl _, Nat.le_refl _, fun _ => .inr ⟨rfl, ha⟩, fun t n e' => ⟨e', ha⟩, q.le_refl, fun _ _ _ e' => (by rw [e] at e'; cases e'), fun _ _ _ _ e' => (by rw [e] at e'; cases e')⟩
      · exact RLe.of_same ha (hl (fun ts l e => hf ⟨ts, l, e⟩) (by rw [hh]; simp))
  | dead _ hb hk hv ha => exact RLe.row' hb (fun cs ss e => by rw [hk] at e; cases e) hv (Nat.le_of_lt ha) (fun e => by omega)
  | row o ts l l' v hk hl hv ha hr =>
    exact RLe.row' (fun cs ss e => by rw [hk] at e; cases e) (fun cs ss e => by cases e) hv (Nat.le_refl _) (fun _ => .inr ⟨by rw [hk]; simp [RK.hd, hl], ha⟩)
  | box cs cs' ss ss' hk hl hs ha hc =>
    unfold rootOk at hq
    rw [hk] at hq
    obtain ⟨_, b, o, ea, _⟩ := hq
    have e : q = ⟨.box cs ss, q.ver, q.anc⟩ := by rw [← hk]
    rw [e]
    refine RLe.box' ha hl (fun f => ?_) (fun f hf b' o' ea' ho hb => ?_)
    · rcases (hc b o ea f).2 with ⟨h1, h2, _⟩ | ⟨h1, _⟩
      · exact ⟨by omega, fun _ => h2⟩
      · exact ⟨by omega, fun e => by omega⟩
    · rw [ea] at ea'; cases ea'
      rcases (hc b o ea f).2 with ⟨_, _, h3⟩ | ⟨h1, _⟩
      · exact h3 ho hb
      · omega
/-- Roots are changed, and new ones stand behind them. -/
theorem chg_spec {G G' : Gh} {R Rf : List Root} {w w' : World} (hR : RelR G R w) (hO : Out G w G' w') (hc : ∀ r q, R[r]? = some q → ∃ q', Rf[r]? = some q' ∧ Chg G w G' Rf w' r q q')
    (hn : ∀ r q, R.length ≤ r → Rf[r]? = some q → rootOk G' Rf w' r q) : RelR G' Rf w' ∧ Evo G R w G' Rf w' := by
  have hE : Evo G R w G' Rf w' := ⟨hO.os, hO.tape, hO.output, hO.size, hO.free, hO.hid, fun r q hq => by
    obtain ⟨q', hq', h⟩ := hc r q hq
    exact ⟨q', hq', h.rle (hR r q hq)⟩⟩
  refine ⟨fun r q' hq' => ?_, hE⟩
  by_cases hr : R.length ≤ r
  · exact hn r q' hr hq'
  · have hlt : r < R.length := by omega
    obtain ⟨q'', hq'', h⟩ := hc r R[r] (List.getElem?_eq_getElem hlt)
    rw [hq'] at hq''; cases hq''
    have hro := hR r R[r] (List.getElem?_eq_getElem hlt)
    generalize R[r] = q at h hro
    cases h with
    | kept h hl =>
      cases hh : q'.k.hd with
      | none =>
        have hk : q'.k = .dead := by
          cases e : q'.k with
          | dead => rfl
          | _ => rw [e] at hh; cases hh
        unfold rootOk; rw [hk]; trivial
      | some z =>
        have ha := h (by rw [hh]; simp)
        by_cases hf : ∃ ts l, q'.k = .fro ts l
        · obtain ⟨ts, l, e⟩ := hf
          unfold rootOk at hro ⊢
          rw [e] at hro ⊢
          rw [ha]
          exact (ro_mono (vw_free hO.free) (.slice ts)).1 _ _ hro
        · exact rootOk_keep hE ha (hl (fun ts l e => hf ⟨ts, l, e⟩) (by rw [hh]; simp)) hro
    | dead _ hb hk hv ha => unfold rootOk; rw [hk]; trivial
    | row o ts l l' v hk hl hv ha hr => exact hr
    | box cs cs' ss ss' hk hl hs ha hc =>
      unfold rootOk at hro
      rw [hk] at hro
      obtain ⟨h0, b, o, ea, hcs⟩ := hro
      refine ⟨by rw [hs, hl, h0], b, o, by rw [ha]; exact ea, fun f hf => ?_⟩
      rw [hl] at hf
      obtain ⟨c1, c2⟩ := (hc b o ea f).1 hf
      have c3 := (hc b o ea f).2
      refine ⟨c1, c2, ?_⟩
      rcases c3 with ⟨_, c4, c5⟩ | ⟨_, v, c6, c7⟩
      · obtain ⟨d1, d2, v, d3, d4⟩ := hcs f hf
        refine ⟨v, by rw [(c5 d1 (lt_of_at d3)).2]; exact d3, ?_⟩
        rw [c4]; exact (avR_evo hE _).1 _ d4
      · exact ⟨v, c6, c7⟩
/-! ### Puts -/
theorem putAll_get (ps : List Put) : ∀ (R : List Root) (n r : Nat), (putAll ps n R)[r]? = (R[r]?).map (putAt (n + r) ps) := by
  intro R
  induction R with
  | nil => intro n r; simp [putAll]
  | cons q R ih =>
    intro n r
    cases r with
    | zero => simp [putAll]
    | succ r => simp only [putAll, List.getElem?_cons_succ, ih]; rw [show n + 1 + r = n + (r + 1) by omega]
theorem putAt_nil (r : Nat) (q : Root) : putAt r [] q = q := rfl
theorem puts_get (ps : List Put) (R : List Root) (r : Nat) : (puts ps R)[r]? = (R[r]?).map (putAt r ps) := by
  cases ps with
  | nil => simp only [puts]; cases R[r]? <;> rfl
  | cons p ps => have := putAll_get (p :: ps) R 0 r; rw [Nat.zero_add] at this; exact this
theorem puts_len (ps : List Put) (R : List Root) : (puts ps R).length = R.length := by
  have : ∀ (R : List Root) (n : Nat), (putAll ps n R).length = R.length := by
    intro R
    induction R with
    | nil => intro n; rfl
    | cons q R ih => intro n; simp [putAll, ih]
  cases ps with
  | nil => rfl
  | cons p ps => exact this R 0
theorem putAt_append (r : Nat) : ∀ (ps ps' : List Put) (q : Root), putAt r (ps ++ ps') q = putAt r ps' (putAt r ps q)
  | [], _, _ => rfl
  | .root r' q' :: ps, ps', q => by simp only [List.cons_append, putAt]; exact putAt_append r ps ps' _
  | .cell r' f v :: ps, ps', q => by simp only [List.cons_append, putAt]; exact putAt_append r ps ps' _
def Put.at : Put → Nat | .root r _ => r | .cell r _ _ => r
theorem putAt_other {r : Nat} : ∀ {ps : List Put}, (∀ p ∈ ps, p.at ≠ r) → ∀ q, putAt r ps q = q
  | [], _, _ => rfl
  | .root r' q' :: ps, h, q => by
    have e : Nat.beq r' r = false := by
      have := h _ (List.mem_cons_self); cases hb : Nat.beq r' r with
      | false => rfl
      | true => exact absurd (beq_nat hb) this
    simp only [putAt, e]
    exact putAt_other (fun p hp => h p (List.mem_cons_of_mem _ hp)) q
  | .cell r' f v :: ps, h, q => by
    have e : Nat.beq r' r = false := by
      have := h _ (List.mem_cons_self); cases hb : Nat.beq r' r with
      | false => rfl
      | true => exact absurd (beq_nat hb) this
    simp only [putAt, e]
    exact putAt_other (fun p hp => h p (List.mem_cons_of_mem _ hp)) q
end Go.Proofs.YtpihkhknehadbaaGreat.Eng
