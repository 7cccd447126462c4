/- What is handed over: values that stand for pure ones, their own parts labelled. No condition. -/
import Derived.Test.YtpihkhknehadbaaGreatEngApp
namespace Go.Proofs.YtpihkhknehadbaaGreat.Eng
open Go.RowKit
set_option linter.unusedVariables false
/-- one cell's value; p: the label of its own row -/
def hCell (G : Gh) (w : World) (sm : Nat) (t : Ty) (x : t.den) (v : Value) (p : Nat × Nat) : Prop := match isOwn sm t with
  | false => (ro (vw G w) t).1 x v
  | true => match t, x with
    | .slice us, x => ∃ a c, v = .slice a (List.length x) c ∧ rowG G w (cvOf G w p.1 (Nat.beq sm 2 && us.hasSl)) (.of p.1 p.2) us x a c ∧ ((Nat.beq sm 2 && us.hasSl) = true → p.2 = 0)
    | _, _ => False
def hCells (G : Gh) (w : World) (sm : Nat) : (ts : Ty) → ts.den → List Value → List (Nat × Nat) → Prop
  | .cons t ts, x, vs, L => ∃ v vs', vs = v :: vs' ∧ hCell G w sm t x.1 v (L.headD (0, 0)) ∧ hCells G w sm ts x.2 vs' (L.drop (idsCell sm t))
  | .nil, _, vs, _ => vs = []
  | _, _, _, _ => False
def hOne (G : Gh) (w : World) (m : Md) (t : Ty) (x : t.den) (v : Value) (L : List (Nat × Nat)) : Prop := match m.ptr with
  | true => ∃ b o vs, v = .pointer (some ⟨b, o, none⟩) ∧ vs.length = t.size ∧ (L.headD (0, 0)).2 = 0 ∧ (∀ f, f < t.size → G.own b (o + f) = .of (L.headD (0, 0)).1 0 ∧ w.frozen? ⟨b, o + f, none⟩ = false ∧ at_ w b (o + f) = some (vs.getD f undef)) ∧ hCells G w m.sm t x vs (L.drop 1)
  | false => match isCons t with
    | true => ∃ vs : List Value, v = .agg vs.toArray ∧ hCells G w m.sm t x vs L
    | false => hCell G w m.sm t x v (L.headD (0, 0))
def hAll (G : Gh) (w : World) : (ts : Ty) → ts.den → List Md → List Value → List (Nat × Nat) → Prop
  | .cons t ts, x, m :: ms, v :: vs, L => hOne G w m t x.1 v L ∧ hAll G w ts x.2 ms vs (L.drop (idsOne m t))
  | .nil, _, [], [], _ => True
  | _, _, _, _, _ => False
/-- a source's label is turned to p -/
def Tgt (G : Gh) (w : World) (R : List Root) (G' : Gh) : Sr → Nat × Nat → Prop
  | .nul, p => p.2 = 0
  | .row r, p => p.2 = 0 ∧ ∀ s, Lk G w G' w (.of r s) (.of p.1 s)
  | .inn r i f, p => ∀ o ts l v a, R[r]? = some ⟨.row o ts l, v, a⟩ → Lk G w G' w (.of r (i * ts.size + f + 1)) (.of p.1 p.2)
  | .box r f n, p => p.2 = 0 ∧ ∀ b o, (G.anch r).1 = some ⟨b, o, none⟩ → ∀ j, j < n → b < w.heap.size → G.own b (o + f + j) = .of r 0 → G'.own b (o + f + j) = .of p.1 0
section
variable {G G' : Gh} {w : World} {Rs : List Root} {tm : List AV}
/-- a flat row whose label is turned to free is read -/
theorem ro_of_flat {r s : Nat} {us : Ty} {m : List us.den} {a : Option Addr} {n : Nat} (hf : Lk G w G' w .free .free) (hr : Lk G w G' w (.of r s) .free) (h : rowG G w (flatV (vw G w)) (.of r s) us m a n) :
    (ro (vw G' w) (.slice us)).1 m (.slice a (List.length m) n) := by
  refine ⟨a, n, rfl, h.1, fun i hi => ?_⟩
  obtain ⟨b, p, ea, h1, h2⟩ := row_elem h hi
  refine ⟨b, p, ea, (elG_ro us _ b _ (i * us.size)).2 (elG_mono us _ b _ _ (fun j v hj e => ?_) (fun k t x v g => flatV_keep (vw_free hf) k k t x v g) h2)⟩
  exact vw_some.2 ⟨(hr _ _ (lt_of_at e) (h1 j hj).1).1, e⟩
theorem ro_tk {u : Nat → Nat → Option Value} {ts : Ty} {l : List ts.den} {n : Nat} {a : Option Addr} {c : Nat} (hn : n ≤ List.length l) (h : (ro u (.slice ts)).1 l (.slice a (List.length l) c)) : (ro u (.slice ts)).1 (tk l n) (.slice a n c) := by
  obtain ⟨a0, c0, e0, hc, hh⟩ := h
  cases e0
  exact ro_take hn (by omega) hh
theorem ro_dp {u : Nat → Nat → Option Value} {ts : Ty} {l : List ts.den} {n : Nat} {a : Option Addr} {c : Nat} (hn : n ≤ List.length l) (h : (ro u (.slice ts)).1 l (.slice a (List.length l) c)) :
    (ro u (.slice ts)).1 (dp l n) (.slice (if c = n then a else a.map (·.add (n * ts.size))) (List.length l - n) (c - n)) := by
  obtain ⟨a0, c0, e0, hc, hh⟩ := h
  cases e0
  exact ro_drop hn hc hh
/-- a slice whose row is read from now on -/
theorem slice_ro (hR : RelR G Rs w) (hf : Lk G w G' w .free .free) {av : AV} {l : (ts : Ty) × List ts.den} {v : Value} (h : sliceOf ⟨tm, Rs⟩ av = some l) (hv : (avR G Rs w av).1 v)
    (hro : ∀ r ∈ roCell ⟨tm, Rs⟩ 0 (.slice .nil) av, ∀ s, Lk G w G' w (.of r s) .free) : (ro (vw G' w) (.slice l.1)).1 l.2 v := by
  have hu := vw_free hf
  cases av with
  | val t x =>
    cases t with
    | slice us => cases h; exact (ro_mono hu (.slice us)).1 _ _ hv
    | _ => cases h
  | nl us => cases h; obtain ⟨a, e⟩ := hv; exact ⟨a, 0, e, Nat.le_refl _, fun i hi => absurd hi (by simp)⟩
  | sl r a =>
    obtain ⟨q, hq, hle, g⟩ := hv
    simp only [sliceOf, hq] at h
    obtain ⟨k, ver, anc⟩ := q
    have hk := hR r _ hq
    cases k with
    | row ow us m =>
      simp only at h
      split at h
      · rename_i hab
        cases h
        rw [g (beq_nat hab).symm us (List.length m) rfl]
        exact ro_of_row hf (hro r (by simp [roCell, isOwn, hq])) hk
      · cases h
    | fro us m =>
      simp only at h
      split at h
      · rename_i hab
        cases h
        rw [g (beq_nat hab).symm us (List.length m) rfl]
        exact (ro_mono hu (.slice us)).1 _ _ hk
      · cases h
    | _ => cases h
  | hd r a n =>
    obtain ⟨q, hq, hle, g⟩ := hv
    simp only [sliceOf, hq] at h
    obtain ⟨k, ver, anc⟩ := q
    have hk := hR r _ hq
    cases k with
    | row ow us m =>
      simp only at h
      split at h
      · rename_i hab
        cases h
        obtain ⟨hn, e⟩ := g (beq_nat hab).symm us (List.length m) rfl
        rw [e]
        exact ro_tk hn (ro_of_row hf (hro r (by simp [roCell, isOwn, hq])) hk)
      · cases h
    | fro us m =>
      simp only at h
      split at h
      · rename_i hab
        cases h
        obtain ⟨hn, e⟩ := g (beq_nat hab).symm us (List.length m) rfl
        rw [e]
        exact ro_tk hn ((ro_mono hu (.slice us)).1 _ _ hk)
      · cases h
    | _ => cases h
  | tl r a n =>
    obtain ⟨q, hq, hle, g⟩ := hv
    simp only [sliceOf, hq] at h
    obtain ⟨k, ver, anc⟩ := q
    have hk := hR r _ hq
    cases k with
    | row ow us m =>
      simp only at h
      split at h
      · rename_i hab
        cases h
        obtain ⟨hn, e⟩ := g (beq_nat hab).symm us (List.length m) rfl
        rw [e]
        exact ro_dp hn (ro_of_row hf (hro r (by simp [roCell, isOwn, hq])) hk)
      · cases h
    | fro us m =>
      simp only at h
      split at h
      · rename_i hab
        cases h
        obtain ⟨hn, e⟩ := g (beq_nat hab).symm us (List.length m) rfl
        rw [e]
        exact ro_dp hn ((ro_mono hu (.slice us)).1 _ _ hk)
      · cases h
    | _ => cases h
  | il r s i f =>
    have hil := hv
    obtain ⟨q, hq, hle, g⟩ := hv
    simp only [sliceOf, hq] at h
    obtain ⟨k, ver, anc⟩ := q
    cases k with
    | row ow us m =>
      cases ow with
      | false => cases h
      | true =>
        simp only at h
        split at h
        · rename_i hab
          obtain ⟨vs, n⟩ := l
          obtain ⟨_, _, a1, n1, e1, e2⟩ := il_spec hR hq (beq_nat hab).symm h hil
          rw [e1]
          exact ro_of_flat hf (hro r (by simp [roCell, isOwn, hq]) _) e2
        · cases h
    | _ => cases h
  | pd r s i f us m =>
    obtain ⟨q, hq, hle, g⟩ := hv
    simp only [sliceOf, hq] at h
    obtain ⟨k, ver, anc⟩ := q
    cases k with
    | row ow vs n =>
      cases ow with
      | false => cases h
      | true =>
        simp only at h
        split at h
        · rename_i hab
          cases h
          obtain ⟨_, _, a1, n1, e1, e2⟩ := g (beq_nat hab).symm true vs n rfl
          rw [e1]
          exact ro_of_flat hf (hro r (by simp [roCell, isOwn, hq]) _) e2
        · cases h
    | _ => cases h
  | _ => cases h
theorem own_slice {sm : Nat} {t : Ty} (h : isOwn sm t = true) : ∃ us, t = .slice us := by
  cases t with
  | slice us => exact ⟨us, rfl⟩
  | _ => simp [isOwn, Ty.isSl] at h
theorem roCell_false {sm : Nat} {t : Ty} {av : AV} (h : isOwn sm t = false) : roCell ⟨tm, Rs⟩ sm t av = roCell ⟨tm, Rs⟩ 0 (.slice .nil) av := by
  unfold roCell; rw [h]; rfl
theorem out_cell (hR : RelR G Rs w) (hf : Lk G w G' w .free .free) {sm : Nat} {t : Ty} {av : AV} {x : t.den} {v : Value} (h : outCell ⟨tm, Rs⟩ sm t av = some x) (hv : (avR G Rs w av).1 v)
    (hro : ∀ r ∈ roCell ⟨tm, Rs⟩ sm t av, ∀ s, Lk G w G' w (.of r s) .free) (p : Nat × Nat) (hs : ∀ s ∈ srcCell sm t av, Tgt G w Rs G' s p) : hCell G' w sm t x v p := by
  have hu := vw_free hf
  unfold hCell
  unfold outCell at h
  cases ho : isOwn sm t with
  | false =>
    rw [ho] at h
    rw [roCell_false ho] at hro
    simp only at h ⊢
    have prim : ∀ (t : Ty) (x : t.den), (match av with | .val u x => u.cast t x | _ => none) = some x → (ro (vw G' w) t).1 x v := by
      intro t x h
      cases av with
      | val u y =>
        obtain ⟨e, g⟩ := cast_spec h
        subst e; subst g
        exact (ro_mono hu _).1 _ _ hv
      | _ => cases h
    cases t with
    | slice us =>
      simp only at h
      split at h
      · rename_i l hl
        obtain ⟨ts', l⟩ := l
        obtain ⟨e, g⟩ := cast_sl h
        cases e
        have g : x = l := g
        rw [g]
        exact slice_ro hR hf hl hv hro
      · cases h
    | bool => exact prim _ _ (by cases av <;> exact h)
    | int k => exact prim _ _ (by cases av <;> exact h)
    | str => exact prim _ _ (by cases av <;> exact h)
    | nil => exact prim _ _ (by cases av <;> exact h)
    | cons _ _ => exact prim _ _ (by cases av <;> exact h)
  | true =>
    rw [ho] at h
    obtain ⟨us, e⟩ := own_slice ho
    subst e
    have hs : ∀ s ∈ (match av with | .sl r _ => [Sr.row r] | .hd r _ _ => [Sr.row r] | .tl r _ _ => [Sr.row r] | .il r _ i f => [Sr.inn r i f] | _ => [Sr.nul]), Tgt G w Rs G' s p := by
      intro s hs'
      refine hs s ?_
      simp only [srcCell, ho]
      exact hs'
    show ∃ a c, v = .slice a (List.length x) c ∧ rowG G' w (cvOf G' w p.1 (Nat.beq sm 2 && us.hasSl)) (.of p.1 p.2) us x a c ∧ ((Nat.beq sm 2 && us.hasSl) = true → p.2 = 0)
    have fromRow : ∀ (r : Nat) (o : Bool) (ts : Ty) (l : List ts.den) (y : (Ty.slice us).den) (a : Option Addr) (c : Nat), (∀ s ∈ [Sr.row r], Tgt G w Rs G' s p) → okOwn sm o ts = true → (Ty.slice ts).cast (.slice us) l = some y → v = .slice a (List.length l) c → rowG G w (cvOf G w r o) (.of r 0) ts l a c →
        ∃ a c, v = .slice a (List.length y) c ∧ rowG G' w (cvOf G' w p.1 (Nat.beq sm 2 && us.hasSl)) (.of p.1 p.2) us y a c ∧ ((Nat.beq sm 2 && us.hasSl) = true → p.2 = 0) := by
      intro r o ts l y a c ht hok hc ev hrow
      obtain ⟨e, g⟩ := cast_sl hc
      cases e
      have g : y = l := g
      subst g
      have ht := ht (.row r) (List.mem_singleton.2 rfl)
      have ho' : o = (Nat.beq sm 2 && us.hasSl) := eq_of_beq hok
      obtain ⟨t1, t2⟩ := ht
      refine ⟨a, c, ev, ?_, fun _ => t1⟩
      rw [← ho', t1]
      exact rowG_keep (fun k t x v g => cvOf_keep o hu (fun _ => t2 (k + 1)) t x v g) (t2 0) hrow
    cases av with
    | nl ts =>
      obtain ⟨a, e⟩ := hv
      obtain ⟨e', g⟩ := cast_sl h
      cases e'
      have g : x = [] := g
      subst g
      exact ⟨a, 0, e, ⟨Nat.le_refl _, .inl rfl⟩, fun _ => hs .nul (List.mem_singleton.2 rfl)⟩
    | sl r a =>
      obtain ⟨q, hq, hle, g⟩ := hv
      simp only [hq] at h
      obtain ⟨k, ver, anc⟩ := q
      have hk := hR r _ hq
      cases k with
      | row o ts l =>
        simp only at h
        split at h
        · rename_i hab
          obtain ⟨h1, h2⟩ := and2 hab
          exact fromRow r o ts l x _ _ hs h2 h (g (beq_nat h1).symm ts (List.length l) rfl) hk
        · cases h
      | _ => cases h
    | hd r a n =>
      obtain ⟨q, hq, hle, g⟩ := hv
      simp only [hq] at h
      obtain ⟨k, ver, anc⟩ := q
      have hk := hR r _ hq
      cases k with
      | row o ts l =>
        simp only at h
        split at h
        · rename_i hab
          obtain ⟨h1, h2⟩ := and2 hab
          obtain ⟨hn, ev⟩ := g (beq_nat h1).symm ts (List.length l) rfl
          exact fromRow r o ts (tk l n) x _ _ hs h2 h (by rw [len_tk hn]; exact ev) (rowG_take hk hn)
        · cases h
      | _ => cases h
    | tl r a n =>
      obtain ⟨q, hq, hle, g⟩ := hv
      simp only [hq] at h
      obtain ⟨k, ver, anc⟩ := q
      have hk := hR r _ hq
      cases k with
      | row o ts l =>
        simp only at h
        split at h
        · rename_i hab
          obtain ⟨h0, h3⟩ := and2 hab
          obtain ⟨h1, h2⟩ := and2 h0
          have ho' : o = false := by simpa using h3
          subst ho'
          obtain ⟨hn, ev⟩ := g (beq_nat h1).symm ts (List.length l) rfl
          exact fromRow r false ts (dp l n) x _ _ hs h2 h (by rw [len_dp]; exact ev) (rowG_drop hk hn)
        · cases h
      | _ => cases h
    | il r s i f =>
      have hil := hv
      obtain ⟨q, hq, hle, g⟩ := hv
      simp only [hq] at h
      obtain ⟨k, ver, anc⟩ := q
      cases k with
      | row o ts l =>
        cases o with
        | false => cases h
        | true =>
          simp only at h
          split at h
          · rename_i vs m hin
            split at h
            · rename_i hab
              obtain ⟨h1, h2⟩ := and2 hab
              obtain ⟨e', g'⟩ := cast_sl h
              cases e'
              have g' : x = m := g'
              subst g'
              obtain ⟨_, _, a1, n1, e1, e2⟩ := il_spec hR hq (beq_nat h1).symm hin hil
              have ht : Lk G w G' w (.of r (i * ts.size + f + 1)) (.of p.1 p.2) := hs (.inn r i f) (List.mem_singleton.2 rfl) _ _ _ _ _ hq
              have ho' : (Nat.beq sm 2 && us.hasSl) = false := by
                have h2 : (false == (Nat.beq sm 2 && us.hasSl)) = true := h2
                cases hb : (Nat.beq sm 2 && us.hasSl) with
                | false => rfl
                | true => rw [hb] at h2; cases h2
              refine ⟨a1, n1, e1, ?_, fun e => by rw [ho'] at e; cases e⟩
              rw [ho']
              exact rowG_keep (fun k t x v g => flatV_keep hu k k t x v g) ht e2
            · cases h
          · cases h
      | _ => cases h
    | _ => cases h
def TgtL (G : Gh) (w : World) (R : List Root) (G' : Gh) : List Sr → List (Nat × Nat) → Prop
  | [], _ => True
  | s :: ss, L => Tgt G w R G' s (L.headD (0, 0)) ∧ TgtL G w R G' ss (L.drop 1)
theorem TgtL.append {ss ts : List Sr} {L : List (Nat × Nat)} (h : TgtL G w Rs G' (ss ++ ts) L) : TgtL G w Rs G' ss L ∧ TgtL G w Rs G' ts (L.drop ss.length) := by
  induction ss generalizing L with
  | nil => exact ⟨trivial, by simpa using h⟩
  | cons s ss ih =>
    obtain ⟨h1, h2⟩ := h
    obtain ⟨h3, h4⟩ := ih h2
    refine ⟨⟨h1, h3⟩, ?_⟩
    rw [List.drop_drop] at h4
    rw [List.length_cons, Nat.add_comm]; exact h4
theorem srcCell_len (sm : Nat) (t : Ty) (av : AV) : (srcCell sm t av).length = idsCell sm t := by
  unfold srcCell idsCell
  cases isOwn sm t with
  | false => rfl
  | true => cases av <;> rfl
theorem out_cells (hR : RelR G Rs w) (hf : Lk G w G' w .free .free) {sm : Nat} : ∀ {ts : Ty} {a : AV} {x : ts.den} {vs : List Value} {L : List (Nat × Nat)}, outCells ⟨tm, Rs⟩ sm ts a = some x → (avR G Rs w a).2 vs →
    (∀ r ∈ roCells ⟨tm, Rs⟩ sm ts a, ∀ s, Lk G w G' w (.of r s) .free) → TgtL G w Rs G' (srcCells sm ts a) L → hCells G' w sm ts x vs L := by
  intro ts
  induction ts with
  | nil =>
    intro a x vs L h hv _ _
    cases a with
    | nil => exact hv
    | _ => cases h
  | cons t ts _ ih =>
    intro a x vs L h hv hro hs
    cases a with
    | cons v a =>
      obtain ⟨v0, vs', e, h1, h2⟩ := hv
      simp only [outCells] at h
      split at h
      · rename_i x0 y0 hx hy
        cases h
        obtain ⟨s1, s2⟩ := TgtL.append hs
        rw [srcCell_len] at s2
        refine ⟨v0, vs', e, out_cell hR hf hx h1 (fun r hr => hro r (List.mem_append_left _ hr)) _ (fun s hs' => ?_), ih hy h2 (fun r hr => hro r (List.mem_append_right _ hr)) s2⟩
        cases hsl : srcCell sm t v with
        | nil => rw [hsl] at hs'; cases hs'
        | cons s0 ss =>
          have hlen := srcCell_len sm t v
          rw [hsl] at hs' s1 hlen
          have : ss = [] := by
            have h1 : idsCell sm t ≤ 1 := by unfold idsCell; split <;> simp
            simp at hlen
            cases ss with
            | nil => rfl
            | cons _ _ => simp at hlen; omega
          subst this
          have : s = s0 := by simpa using hs'
          subst this
          exact s1.1
      · cases h
    | _ => cases h
  | _ => intro a x vs L h; cases a <;> cases h
theorem outCells_len {sm : Nat} : ∀ {ts : Ty} {a : AV} {x : ts.den}, outCells ⟨tm, Rs⟩ sm ts a = some x → lenAV a = ts.size := by
  intro ts
  induction ts with
  | nil =>
    intro a x h
    cases a with
    | nil => rfl
    | _ => cases h
  | cons t ts _ ih =>
    intro a x h
    cases a with
    | cons v a =>
      simp only [outCells] at h
      split at h
      · rename_i x0 y0 hx hy
        simp only [lenAV, Ty.size, ih hy]
      · cases h
    | _ => cases h
  | _ => intro a x h; cases a <;> cases h
theorem len_box : ∀ (cs : List AV) (f n : Nat), lenAV (headAV n (dropAV f (.ofList cs))) = min n (cs.length - f) := by
  have h0 : ∀ (cs : List AV) (n : Nat), lenAV (headAV n (.ofList cs)) = min n cs.length := by
    intro cs
    induction cs with
    | nil => intro n; cases n <;> simp [AV.ofList, headAV, lenAV]
    | cons c cs ih =>
      intro n
      cases n with
      | zero => simp [AV.ofList, headAV, lenAV]
      | succ n => simp only [AV.ofList, headAV, lenAV, ih, List.length_cons]; omega
  intro cs
  induction cs with
  | nil => intro f n; cases f <;> cases n <;> simp [AV.ofList, dropAV, headAV, lenAV]
  | cons c cs ih =>
    intro f n
    cases f with
    | zero => exact h0 (c :: cs) n
    | succ f => simp only [AV.ofList, dropAV, ih, List.length_cons]; omega
theorem srcCells_len (sm : Nat) : ∀ {ts : Ty} {a : AV} {x : ts.den}, outCells ⟨tm, Rs⟩ sm ts a = some x → (srcCells sm ts a).length = idsCells sm ts := by
  intro ts
  induction ts with
  | nil => intro a x h; cases a <;> first | rfl | cases h
  | cons t ts _ ih =>
    intro a x h
    cases a with
    | cons v a =>
      simp only [outCells] at h
      split at h
      · rename_i x0 y0 hx hy
        simp only [srcCells, idsCells, List.length_append, srcCell_len, ih hy]
      · cases h
    | _ => cases h
  | _ => intro a x h; cases a <;> cases h
theorem srcOne_len {m : Md} {t : Ty} {a : AV} {x : t.den} (h : outOne ⟨tm, Rs⟩ m t a = some x) : (srcOne ⟨tm, Rs⟩ m t a).length = idsOne m t := by
  unfold outOne at h
  unfold srcOne idsOne
  cases hp : m.ptr with
  | true =>
    rw [hp] at h
    cases a with
    | bp r f =>
      simp only at h
      split at h
      · simp only [List.length_cons, srcCells_len m.sm h]; omega
      · cases h
    | _ => cases h
  | false =>
    rw [hp] at h
    simp only at h ⊢
    cases hc : isCons t with
    | true =>
      rw [hc] at h
      cases a with
      | agg cs => exact srcCells_len m.sm h
      | _ => cases h
    | false => exact srcCell_len _ _ _
theorem out_one (hR : RelR G Rs w) (hf : Lk G w G' w .free .free) {m : Md} {t : Ty} {a : AV} {x : t.den} {v : Value} {L : List (Nat × Nat)} (h : outOne ⟨tm, Rs⟩ m t a = some x) (hv : (avR G Rs w a).1 v)
    (hro : ∀ r ∈ roOne ⟨tm, Rs⟩ m t a, ∀ s, Lk G w G' w (.of r s) .free) (hs : TgtL G w Rs G' (srcOne ⟨tm, Rs⟩ m t a) L) : hOne G' w m t x v L := by
  unfold outOne at h
  unfold srcOne at hs
  unfold roOne at hro
  unfold hOne
  cases hp : m.ptr with
  | true =>
    rw [hp] at h hs hro
    cases a with
    | bp r f =>
      simp only at h hs hro ⊢
      obtain ⟨⟨s0, s1⟩, s2⟩ := hs
      obtain ⟨q, hq, g⟩ := hv
      obtain ⟨kk, ver, anc⟩ := q
      cases hbx : isBoxAt Rs r with
      | false => rw [hbx] at h; cases h
      | true =>
      rw [hbx] at h
      simp only at h
      have hlen := outCells_len h
      cases kk with
      | box cs ss =>
        obtain ⟨b, p, ea, ev⟩ := g cs.length .nil rfl
        obtain ⟨_, b', p', ea', hcs⟩ := hR r _ hq
        rw [ea] at ea'; cases ea'
        have hbc : boxCells ⟨tm, Rs⟩ r f t.size = headAV t.size (dropAV f (.ofList cs)) := by simp [boxCells, hq]
        rw [hbc] at h hlen s2 hro
        rw [len_box] at hlen
        by_cases h0 : t.size = 0
        · have hz : t = .nil ∨ ∀ c, outCells ⟨tm, Rs⟩ m.sm t c = none := by
            cases t with
            | nil => exact .inl rfl
            | cons _ _ => simp [Ty.size] at h0
            | _ => exact .inr (fun c => by cases c <;> rfl)
          rcases hz with e | e
          · subst e
            exact ⟨b, p + f, [], ev, rfl, s0, fun f hf => by simp [Ty.size] at hf, rfl⟩
          · rw [e] at h; cases h
        · have hfit : f + t.size ≤ cs.length := by omega
          obtain ⟨vs, hl, hc, ha⟩ := box_cells (G := G) (R' := Rs) (w := w) (b := b) cs p f t.size (fun f hf => (hcs f hf).2.2) hfit
          refine ⟨b, p + f, vs, ev, hl, s0, fun j hj => ?_, out_cells hR hf h ha hro s2⟩
          obtain ⟨c1, c2, u, c3, _⟩ := hcs (f + j) (by omega)
          have c4 := hc j (by omega)
          rw [show p + (f + j) = p + f + j by omega] at c1 c2 c3
          exact ⟨s1 b p ea j hj (lt_of_at c3) c1, c2, c4⟩
      | _ =>
        simp [isBoxAt, hq] at hbx
    | _ => cases h
  | false =>
    rw [hp] at h hs hro
    simp only at h hs hro ⊢
    cases hc : isCons t with
    | true =>
      rw [hc] at h hs hro
      cases a with
      | agg cs =>
        obtain ⟨vs, e, h2⟩ := hv
        exact ⟨vs, e, out_cells hR hf h h2 hro hs⟩
      | _ => cases h
    | false =>
      rw [hc] at h hs hro
      refine out_cell hR hf h hv hro _ (fun s hs' => ?_)
      cases hsl : srcCell m.sm t a with
      | nil => rw [hsl] at hs'; cases hs'
      | cons s0 ss =>
        have hlen := srcCell_len m.sm t a
        simp only at hs
        rw [hsl] at hs' hs hlen
        have : ss = [] := by
          have h1 : idsCell m.sm t ≤ 1 := by unfold idsCell; split <;> simp
          simp at hlen
          cases ss with
          | nil => rfl
          | cons _ _ => simp at hlen; omega
        subst this
        have : s = s0 := by simpa using hs'
        subst this
        exact hs.1
theorem out_all (hR : RelR G Rs w) (hf : Lk G w G' w .free .free) : ∀ {ts : Ty} {ms : List Md} {as : List AV} {x : ts.den} {vs : List Value} {L : List (Nat × Nat)}, outAll ⟨tm, Rs⟩ ts ms as = some x → as.length = vs.length → (∀ i, i < as.length → (avR G Rs w (as.getD i .undef)).1 (vs.getD i undef)) →
    (∀ r ∈ roAll ⟨tm, Rs⟩ ts ms as, ∀ s, Lk G w G' w (.of r s) .free) → TgtL G w Rs G' (srcAll ⟨tm, Rs⟩ ts ms as) L → hAll G' w ts x ms vs L := by
  intro ts
  induction ts with
  | nil =>
    intro ms as x vs L h hl _ _ _
    cases ms with
    | nil =>
      cases as with
      | nil => cases vs with
        | nil => trivial
        | cons _ _ => simp at hl
      | cons _ _ => cases h
    | cons _ _ => cases h
  | cons t ts _ ih =>
    intro ms as x vs L h hl hv hro hs
    cases ms with
    | nil => cases h
    | cons m ms =>
      cases as with
      | nil => cases h
      | cons a as =>
        cases vs with
        | nil => simp at hl
        | cons v vs =>
          simp only [outAll] at h
          split at h
          · rename_i x0 y0 hx hy
            cases h
            obtain ⟨s1, s2⟩ := TgtL.append hs
            rw [srcOne_len hx] at s2
            refine ⟨out_one hR hf hx (by simpa using hv 0 (by simp)) (fun r hr => hro r (List.mem_append_left _ hr)) s1, ih hy (by simpa using hl) (fun i hi => ?_) (fun r hr => hro r (List.mem_append_right _ hr)) s2⟩
            simpa using hv (i + 1) (by simpa using hi)
          · cases h
  | _ => intro ms as x vs L h; cases ms <;> cases as <;> cases h
/-! ### What comes in: new roots -/
/-- labels one after another -/
def consec (L : List (Nat × Nat)) (n k : Nat) : Prop := ∀ j, j < k → L.getD j (0, 0) = (n + j, 0)
theorem consec.head {L : List (Nat × Nat)} {n k : Nat} (h : consec L n k) (hk : 0 < k) : L.headD (0, 0) = (n, 0) := by
  have := h 0 hk
  cases L with
  | nil => simpa using this
  | cons p L => simpa using this
theorem consec.left {L : List (Nat × Nat)} {n k k' : Nat} (h : consec L n (k + k')) : consec L n k := fun j hj => h j (by omega)
theorem consec.right {L : List (Nat × Nat)} {n k k' : Nat} (h : consec L n (k + k')) : consec (L.drop k) (n + k) k' := fun j hj => by
  have := h (k + j) (by omega)
  rw [List.getD_eq_getElem?_getD] at this ⊢
  rw [List.getElem?_drop, this]; congr 1; omega
/-- new roots N, k of them, numbered from n on, stand once their places are told, and then C -/
def InOk (G : Gh) (w : World) (n k : Nat) (N : List Root) (C : Gh → List Root → Prop) : Prop := N.length = k ∧ ∃ A : List (Option Addr × Nat), A.length = k ∧ ∀ an : Nat → Option Addr × Nat, (∀ j, j < k → an (n + j) = A.getD j (none, 0)) →
  ∀ R', (∀ j q, N[j]? = some q → R'[n + j]? = some q) → (∀ j q, N[j]? = some q → rootOk ⟨G.own, an⟩ R' w (n + j) q) ∧ C ⟨G.own, an⟩ R'
theorem InOk.append {n k k' : Nat} {N N' : List Root} {C C' : Gh → List Root → Prop} (h : InOk G w n k N C) (h' : InOk G w (n + k) k' N' C') : InOk G w n (k + k') (N ++ N') (fun G R => C G R ∧ C' G R) := by
  obtain ⟨hl, A, ha, h⟩ := h
  obtain ⟨hl', A', ha', h'⟩ := h'
  refine ⟨by simp [hl, hl'], A ++ A', by simp [ha, ha'], fun an han R' hR' => ?_⟩
  obtain ⟨g1, g2⟩ := h an (fun j hj => by
    rw [han j (by omega), List.getD_eq_getElem?_getD, List.getElem?_append_left (by omega), List.getD_eq_getElem?_getD]) R' (fun j q hq => hR' j q (by
      rw [List.getElem?_append_left (List.getElem?_eq_some_iff.1 hq).1]; exact hq))
  obtain ⟨g1', g2'⟩ := h' an (fun j hj => by
    have := han (k + j) (by omega)
    rw [List.getD_eq_getElem?_getD, List.getElem?_append_right (by omega), show k + j - A.length = j by omega, ← Nat.add_assoc] at this
    rw [this, List.getD_eq_getElem?_getD]) R' (fun j q hq => by
      have := hR' (k + j) q (by rw [List.getElem?_append_right (by omega), show k + j - N.length = j by omega]; exact hq)
      rwa [← Nat.add_assoc] at this)
  refine ⟨fun j q hq => ?_, g2, g2'⟩
  by_cases hj : j < N.length
  · rw [List.getElem?_append_left hj] at hq; exact g1 j q hq
  · rw [List.getElem?_append_right (by omega)] at hq
    have := g1' _ q hq
    rwa [show n + k + (j - N.length) = n + j by omega] at this
theorem InOk.none {n : Nat} {C : Gh → List Root → Prop} (h : ∀ an R', C ⟨G.own, an⟩ R') : InOk G w n 0 [] C := ⟨rfl, [], rfl, fun an _ R' _ => ⟨fun j q hq => by simp at hq, h an R'⟩⟩
theorem in_cell {sm : Nat} {t : Ty} {x : t.den} {v : Value} {p : Nat × Nat} {n : Nat} (h : hCell G w sm t x v p) (hp : isOwn sm t = true → p = (n, 0)) : InOk G w n (idsCell sm t) (rowCell sm t x) (fun G' R' => (avR G' R' w (inCell sm t x n)).1 v) := by
  unfold hCell at h
  unfold idsCell rowCell inCell
  cases ho : isOwn sm t with
  | false =>
    rw [ho] at h
    exact InOk.none (fun an R' => h)
  | true =>
    rw [ho] at h
    have hp := hp ho
    subst hp
    obtain ⟨us, e⟩ := own_slice ho
    subst e
    obtain ⟨a, c, ev, hrow, _⟩ := h
    refine ⟨rfl, [(a, c)], rfl, fun an han R' hR' => ?_⟩
    have ha : an n = (a, c) := han 0 (by simp)
    refine ⟨fun j q hq => ?_, ?_⟩
    · have e : j = 0 := by have := (List.getElem?_eq_some_iff.1 hq).1; simpa using this
      subst e
      simp at hq; subst hq
      show rowG ⟨G.own, an⟩ w (cvOf ⟨G.own, an⟩ w n _) (.of n 0) us x (an n).1 (an n).2
      rw [ha]; exact hrow
    · have hq := hR' 0 _ rfl
      refine ⟨_, hq, Nat.le_refl _, fun _ ts m hh => ?_⟩
      cases hh
      show v = .slice (an n).1 _ (an n).2
      rw [ha]; exact ev
theorem in_cells {sm : Nat} : ∀ {ts : Ty} {x : ts.den} {vs : List Value} {L : List (Nat × Nat)} {n : Nat}, hCells G w sm ts x vs L → consec L n (idsCells sm ts) →
    InOk G w n (idsCells sm ts) (rowCells sm ts x) (fun G' R' => (avR G' R' w (inCells sm ts x n)).2 vs) := by
  intro ts
  induction ts with
  | nil => intro x vs L n h _; exact InOk.none (fun an R' => h)
  | cons t ts _ ih =>
    intro x vs L n h hL
    obtain ⟨v, vs', e, h1, h2⟩ := h
    have i1 := in_cell (n := n) h1 (fun ho => hL.head (by simp [idsCells, idsCell, ho]; omega))
    have i2 := ih h2 hL.right
    obtain ⟨k1, A, k2, k3⟩ := i1.append i2
    refine ⟨k1, A, k2, fun an han R' hR' => ?_⟩
    obtain ⟨g1, g2, g3⟩ := k3 an han R' hR'
    exact ⟨g1, v, vs', e, g2, g3⟩
  | _ => intro x vs L n h; exact h.elim
theorem toList_ofAv {R' : List Root} : ∀ (c : AV) (vs : List Value), (avR G R' w c).2 vs → vs.length = c.toList.length ∧ ∀ f, f < vs.length → (avR G R' w (c.toList.getD f .undef)).1 (vs.getD f undef) := fun c vs h => avs_get c vs h
theorem inCells_len {sm : Nat} : ∀ {ts : Ty} {x : ts.den} {n : Nat}, (inCells sm ts x n).toList.length = ts.size := by
  intro ts
  induction ts with
  | cons t ts _ ih => intro x n; simp [inCells, AV.toList, ih, Ty.size]
  | _ => intro x n; rfl
theorem in_one {m : Md} {t : Ty} {x : t.den} {v : Value} {L : List (Nat × Nat)} {n : Nat} (h : hOne G w m t x v L) (hL : consec L n (idsOne m t)) : InOk G w n (idsOne m t) (rowOne m t x n) (fun G' R' => (avR G' R' w (inOne m t x n)).1 v) := by
  unfold hOne at h
  unfold idsOne at hL ⊢
  unfold rowOne inOne
  cases hp : m.ptr with
  | true =>
    rw [hp] at h hL
    simp only at h hL ⊢
    obtain ⟨b, o, vs, ev, hvl, h0, hc, hcs⟩ := h
    have hhead := hL.head (by omega)
    rw [hhead] at hc
    obtain ⟨k1, A, k2, k3⟩ := in_cells hcs hL.right
    refine ⟨by simp [k1]; omega, (some ⟨b, o, none⟩, 0) :: A, by simp [k2]; omega, fun an han R' hR' => ?_⟩
    have ha : an n = (some ⟨b, o, none⟩, 0) := han 0 (by omega)
    obtain ⟨g1, g2⟩ := k3 an (fun j hj => by
      have := han (1 + j) (by omega)
      rw [← Nat.add_assoc] at this
      rw [this, Nat.add_comm 1 j]; rfl) R' (fun j q hq => by
        have := hR' (1 + j) q (by rw [Nat.add_comm 1 j]; exact hq)
        rwa [← Nat.add_assoc] at this)
    refine ⟨fun j q hq => ?_, ?_⟩
    · cases j with
      | zero =>
        simp at hq; subst hq
        refine ⟨by simp, b, o, by rw [show (⟨G.own, an⟩ : Gh).anch (n + 0) = an n from rfl, ha], fun f hf => ?_⟩
        rw [inCells_len] at hf
        obtain ⟨c1, c2, c3⟩ := hc f hf
        obtain ⟨l1, l2⟩ := avs_get _ _ g2
        exact ⟨c1, c2, _, c3, l2 f (by omega)⟩
      | succ j =>
        have := g1 j q hq
        rwa [show n + 1 + j = n + (j + 1) by omega] at this
    · have hq := hR' 0 _ rfl
      refine ⟨_, hq, fun n' t' hh => ⟨b, o, ?_, ev⟩⟩
      show (an n).1 = _
      rw [ha]
  | false =>
    rw [hp] at h hL
    simp only at h hL ⊢
    cases hc : isCons t with
    | true =>
      rw [hc] at h hL
      obtain ⟨vs, e, h⟩ := h
      obtain ⟨k1, A, k2, k3⟩ := in_cells h hL
      refine ⟨k1, A, k2, fun an han R' hR' => ?_⟩
      obtain ⟨g1, g2⟩ := k3 an han R' hR'
      exact ⟨g1, vs, e, g2⟩
    | false =>
      rw [hc] at h hL
      exact in_cell h (fun ho => hL.head (by simp [idsCell, ho]))
def idsAll : Ty → List Md → Nat
  | .cons t ts, m :: ms => idsOne m t + idsAll ts ms
  | _, _ => 0
theorem in_all : ∀ {ts : Ty} {x : ts.den} {ms : List Md} {vs : List Value} {L : List (Nat × Nat)} {n : Nat}, hAll G w ts x ms vs L → consec L n (idsAll ts ms) →
    InOk G w n (idsAll ts ms) (rowAll ts x ms n) (fun G' R' => (inAll ts x ms n).length = vs.length ∧ ∀ i, i < vs.length → (avR G' R' w ((inAll ts x ms n).getD i .undef)).1 (vs.getD i undef)) := by
  intro ts
  induction ts with
  | nil =>
    intro x ms vs L n h _
    cases ms with
    | nil => cases vs with
      | nil => exact InOk.none (fun an R' => ⟨rfl, fun i hi => by simp at hi⟩)
      | cons _ _ => exact h.elim
    | cons _ _ => exact h.elim
  | cons t ts _ ih =>
    intro x ms vs L n h hL
    cases ms with
    | nil => exact h.elim
    | cons m ms =>
      cases vs with
      | nil => exact h.elim
      | cons v vs =>
        obtain ⟨h1, h2⟩ := h
        have i1 := in_one h1 hL.left
        have i2 := ih h2 hL.right
        obtain ⟨k1, A, k2, k3⟩ := i1.append i2
        refine ⟨k1, A, k2, fun an han R' hR' => ?_⟩
        obtain ⟨g1, g2, g3, g4⟩ := k3 an han R' hR'
        refine ⟨g1, by simp [inAll, g3], fun i hi => ?_⟩
        cases i with
        | zero => exact g2
        | succ i => simpa [inAll] using g4 i (by simpa using hi)
  | _ => intro x ms vs L n h; exact h.elim
end
end Go.Proofs.YtpihkhknehadbaaGreat.Eng
