/- Meetings: what is handed on stands at the state that goes on. No condition. -/
import Derived.Test.YtpihkhknehadbaaGreatEngChg
namespace Go.Proofs.YtpihkhknehadbaaGreat.Eng
open Go.RowKit
set_option linter.unusedVariables false
/-! ### Ids -/
theorem rootIts_mem {is : List It} {r : Nat} : r ∈ rootIts is ↔ ∃ m t, (⟨.root r, m, t⟩ : It) ∈ is := by
  induction is with
  | nil => simp [rootIts]
  | cons i is ih =>
    obtain ⟨p, m, t⟩ := i
    cases p with
    | root r' =>
      simp only [rootIts, List.mem_cons, ih]
      constructor
      · rintro (e | ⟨m', t', h⟩)
        · subst e; exact ⟨m, t, .inl rfl⟩
        · exact ⟨m', t', .inr h⟩
      · rintro ⟨m', t', e | h⟩
        · cases e; exact .inl rfl
        · exact .inr ⟨m', t', h⟩
    | slot s =>
      simp only [rootIts, ih, List.mem_cons]
      exact ⟨fun ⟨m', t', h⟩ => ⟨m', t', .inr h⟩, fun ⟨m', t', h⟩ => h.elim (fun e => by cases e) (fun h => ⟨m', t', h⟩)⟩
    | cell s f =>
      simp only [rootIts, ih, List.mem_cons]
      exact ⟨fun ⟨m', t', h⟩ => ⟨m', t', .inr h⟩, fun ⟨m', t', h⟩ => h.elim (fun e => by cases e) (fun h => ⟨m', t', h⟩)⟩
/-- the labels of what is handed on -/
def tgts : List It → Nat → List (Nat × Nat)
  | [], _ => []
  | i :: is, n => match i.p with
    | .root r => (r, 0) :: tgts is n
    | _ => (List.range' n (idsOne i.m i.t)).map (fun k => (k, 0)) ++ tgts is (n + idsOne i.m i.t)
def idsIts : List It → Nat
  | [] => 0
  | i :: is => (match isRootIt i with | true => 0 | false => idsOne i.m i.t) + idsIts is
theorem consec_range {n k : Nat} {L : List (Nat × Nat)} : consec ((List.range' n k).map (fun j => (j, 0)) ++ L) n k := fun j hj => by
  rw [List.getD_eq_getElem?_getD, List.getElem?_append_left (by simpa using hj)]
  simp [hj]
theorem tgts_zero : ∀ (is : List It) (n : Nat), ∀ p ∈ tgts is n, p.2 = 0
  | [], _, p, h => by cases h
  | i :: is, n, p, h => by
    obtain ⟨q, m, t⟩ := i
    cases q with
    | root r =>
      simp only [tgts, List.mem_cons] at h
      rcases h with e | h
      · rw [e]
      · exact tgts_zero is n p h
    | slot s =>
      simp only [tgts, List.mem_append, List.mem_map] at h
      rcases h with ⟨k, _, e⟩ | h
      · rw [← e]
      · exact tgts_zero is _ p h
    | cell s f =>
      simp only [tgts, List.mem_append, List.mem_map] at h
      rcases h with ⟨k, _, e⟩ | h
      · rw [← e]
      · exact tgts_zero is _ p h
/-- what is handed on by places other than roots stands as abstract values -/
def ItGood (G : Gh) (R : List Root) (w : World) : List It → (t : Ty) → t.den → Nat → List Value → Prop
  | i :: is, .cons t ts, x, n, v :: vs => match isRootIt i with
    | true => ItGood G R w is ts x.2 n vs
    | false => (avR G R w (inOne i.m t x.1 n)).1 v ∧ ItGood G R w is ts x.2 (n + idsOne i.m t) vs
  | _, _, _, _, _ => True
/-- rows that are handed on in their own places -/
def RtGood (G : Gh) (w : World) : List It → (t : Ty) → t.den → List Value → Prop
  | i :: is, .cons t ts, x, v :: vs => (match i.p with | .root r => hCell G w i.m.sm t x.1 v (r, 0) | _ => True) ∧ RtGood G w is ts x.2 vs
  | _, _, _, _ => True
theorem items_in {G : Gh} {w : World} {R0 : List Root} : ∀ (is : List It) (x : (itTys is).den) (vs : List Value) (n : Nat), rootItsOk R0 is = true → hAll G w (itTys is) x (itMds is) vs (tgts is n) →
    InOk G w n (idsIts is) (decRows is (itTys is) x n) (fun G' R' => ItGood G' R' w is (itTys is) x n vs) ∧ RtGood G w is (itTys is) x vs
  | [], x, vs, n, _, h => ⟨InOk.none (fun an R' => trivial), trivial⟩
  | i :: is, x, vs, n, hr, h => by
    obtain ⟨p, m, t⟩ := i
    cases vs with
    | nil => exact h.elim
    | cons v vs =>
      obtain ⟨h1, h2⟩ := h
      cases p with
      | root r =>
        simp only [rootItsOk] at hr
        obtain ⟨hr1, hr2⟩ := and2 hr
        split at hr1
        · rename_i o ts l ver anc us hq
          obtain ⟨hr1, hr4⟩ := and2 hr1
          obtain ⟨hr1, hr5⟩ := and2 hr1
          obtain ⟨hr1, hr6⟩ := and2 hr1
          have hp : m.ptr = false := by simpa using hr1
          have hsm : isOwn m.sm (.slice us) = true := by simp only [isOwn, Ty.isSl, Bool.and_true]; exact hr6
          have hids : idsOne m (.slice us) = 1 := by simp [idsOne, hp, isCons, idsCell, hsm]
          have hone : hCell G w m.sm (.slice us) x.1 v (r, 0) := by
            have h1' := h1
            unfold hOne at h1'
            rw [hp] at h1'
            exact h1'
          have h2' : hAll G w (itTys is) x.2 (itMds is) vs (tgts is n) := by
            have e : (tgts (⟨.root r, m, .slice us⟩ :: is) n).drop (idsOne m (.slice us)) = tgts is n := by rw [hids]; rfl
            rw [← e]; exact h2
          obtain ⟨i1, i2⟩ := items_in is x.2 vs n hr2 h2'
          refine ⟨?_, hone, i2⟩
          have e1 : idsIts (⟨.root r, m, .slice us⟩ :: is) = idsIts is := by simp [idsIts, isRootIt]
          rw [e1]
          exact i1
        · cases hr1
      | slot s =>
        have h2' : hAll G w (itTys is) x.2 (itMds is) vs (tgts is (n + idsOne m t)) := by
          have e : (tgts (⟨.slot s, m, t⟩ :: is) n).drop (idsOne m t) = tgts is (n + idsOne m t) := by simp [tgts]
          rw [← e]; exact h2
        obtain ⟨i1, i2⟩ := items_in is x.2 vs _ hr h2'
        exact ⟨(in_one h1 consec_range).append i1, trivial, i2⟩
      | cell s f =>
        have h2' : hAll G w (itTys is) x.2 (itMds is) vs (tgts is (n + idsOne m t)) := by
          have e : (tgts (⟨.cell s f, m, t⟩ :: is) n).drop (idsOne m t) = tgts is (n + idsOne m t) := by simp [tgts]
          rw [← e]; exact h2
        obtain ⟨i1, i2⟩ := items_in is x.2 vs _ hr h2'
        exact ⟨(in_one h1 consec_range).append i1, trivial, i2⟩
/-! ### Where the values stand -/
/-- a place's value -/
def ItVal (G : Gh) (R : List Root) (a : Act) (w : World) (p : Place) (v : Value) : Prop := match p with
  | .slot s => v = a.tmps.getD s undef
  | .cell r f => ∀ cs ss ver anc b o, R[r]? = some ⟨.box cs ss, ver, anc⟩ → f < cs.length → (G.anch r).1 = some ⟨b, o, none⟩ → at_ w b (o + f) = some v
  | .root r => ∀ o ts l ver anc, R[r]? = some ⟨.row o ts l, ver, anc⟩ → v = .slice (G.anch r).1 (List.length l) (G.anch r).2
theorem place_val {G : Gh} {σ : St} {a : Act} {w : World} (hR : Rel G σ a w) (p : Place) : ∃ v, (avR G σ.roots w (place σ p)).1 v ∧ ItVal G σ.roots a w p v := by
  cases p with
  | slot s => exact ⟨_, hR.tmps s, rfl⟩
  | cell r f =>
    by_cases hb : ∃ cs ss ver anc, σ.roots[r]? = some ⟨.box cs ss, ver, anc⟩
    · obtain ⟨cs, ss, ver, anc, hq⟩ := hb
      obtain ⟨_, b, o, ea, hcs⟩ := hR.roots r _ hq
      have hpl : place σ (.cell r f) = cs.getD f .undef := by simp [place, hq]
      rw [hpl]
      by_cases hf : f < cs.length
      · obtain ⟨_, _, v, h3, h4⟩ := hcs f hf
        refine ⟨v, h4, fun cs' ss' ver' anc' b' o' hq' _ ea' => ?_⟩
        rw [ea] at ea'; cases ea'; exact h3
      · refine ⟨undef, ?_, fun cs' ss' ver' anc' b' o' hq' hf' _ => ?_⟩
        · rw [List.getD_eq_getElem?_getD, List.getElem?_eq_none (by omega)]; exact trivial
        · rw [hq] at hq'; cases hq'; exact absurd hf' hf
    · refine ⟨undef, ?_, fun cs ss ver anc b o hq => absurd ⟨cs, ss, ver, anc, hq⟩ hb⟩
      have : place σ (.cell r f) = .undef := by
        simp only [place]
        split
        · rename_i cs ss ver anc hq; exact absurd ⟨cs, ss, ver, anc, hq⟩ hb
        · rfl
      rw [this]; exact trivial
  | root r =>
    cases hq : σ.roots[r]? with
    | none => exact ⟨undef, by simp [place, hq, avR], fun o ts l ver anc h => by rw [hq] at h; cases h⟩
    | some q =>
      obtain ⟨k, ver, anc⟩ := q
      have hpl : place σ (.root r) = .sl r anc := by simp [place, hq]
      rw [hpl]
      cases hh : k.hd with
      | none =>
        refine ⟨undef, ⟨_, hq, Nat.le_refl _, fun _ ts n h => ?_⟩, fun o ts l ver' anc' h => ?_⟩
        · simp only at h; rw [hh] at h; cases h
        · rw [hq] at h; cases h; cases hh
      | some z =>
        obtain ⟨bx, ts, n⟩ := z
        refine ⟨.slice (G.anch r).1 n (G.anch r).2, ⟨_, hq, Nat.le_refl _, fun _ ts' n' h => ?_⟩, fun o ts' l ver' anc' h => ?_⟩
        · simp only at h; rw [hh] at h; cases h; rfl
        · rw [hq] at h; cases h; cases hh; rfl
def ItVals (G : Gh) (R : List Root) (a : Act) (w : World) : List It → List Value → Prop
  | i :: is, v :: vs => ItVal G R a w i.p v ∧ ItVals G R a w is vs
  | _, _ => True
theorem places_vals {G : Gh} {σ : St} {a : Act} {w : World} (hR : Rel G σ a w) : ∀ (is : List It), ∃ vs : List Value, (places σ is).length = vs.length ∧ (∀ i, i < (places σ is).length → (avR G σ.roots w ((places σ is).getD i .undef)).1 (vs.getD i undef)) ∧ ItVals G σ.roots a w is vs
  | [] => ⟨[], rfl, fun i hi => by simp [places] at hi, trivial⟩
  | i :: is => by
    obtain ⟨vs, h1, h2, h3⟩ := places_vals hR is
    obtain ⟨v, g1, g2⟩ := place_val hR i.p
    refine ⟨v :: vs, by simp [places, h1], fun j hj => ?_, g2, h3⟩
    cases j with
    | zero => exact g1
    | succ j => simpa [places] using h2 j (by simpa [places] using hj)
/-! ### The turn of labels -/
/-- what a source's cells are labelled -/
def srcLab (R : List Root) : Sr → Nat × Nat → Nat → Nat → Option Lab
  | .nul, _, _, _ => none
  | .row r', p, r, s => if r' = r then some (.of p.1 s) else none
  | .inn r' i f, p, r, s => if r' = r then some (match R[r]? with | some ⟨.row _ ts _, _, _⟩ => if s = i * ts.size + f + 1 then .of p.1 p.2 else .hid | _ => .hid) else none
  | .box r' _ _, p, r, s => if r' = r then some (.of p.1 s) else none
def tauS (R : List Root) : List Sr → List (Nat × Nat) → Nat → Nat → Option Lab
  | [], _, _, _ => none
  | x :: ss, L, r, s => match srcLab R x (L.headD (0, 0)) r s with | some l => some l | none => tauS R ss (L.drop 1) r s
theorem srcLab_none {R : List Root} {x : Sr} {p : Nat × Nat} {r s : Nat} (h : r ∉ x.id) : srcLab R x p r s = none := by
  cases x with
  | nul => rfl
  | row r' => simp only [Sr.id, List.mem_singleton] at h; simp [srcLab, Ne.symm h]
  | inn r' i f => simp only [Sr.id, List.mem_singleton] at h; simp [srcLab, Ne.symm h]
  | box r' f n => simp only [Sr.id, List.mem_singleton] at h; simp [srcLab, Ne.symm h]
theorem tauS_none {R : List Root} : ∀ {ss : List Sr} {L : List (Nat × Nat)} {r s : Nat}, r ∉ srcIds ss → tauS R ss L r s = none
  | [], _, _, _, _ => rfl
  | x :: ss, L, r, s, h => by
    simp only [srcIds, List.mem_append, not_or] at h
    simp only [tauS, srcLab_none h.1]
    exact tauS_none h.2
theorem tgtL_tau {G : Gh} {w : World} {R : List Root} {G' : Gh} {τ : Nat → Nat → Lab} (hl : ∀ r s, Lk G w G' w (.of r s) (τ r s)) : ∀ {ss : List Sr} {L : List (Nat × Nat)}, (srcIds ss).Nodup → (∀ p ∈ L, p.2 = 0) →
    (∀ r, r ∈ srcIds ss → ∀ s, tauS R ss L r s = some (τ r s)) → TgtL G w R G' ss L
  | [], _, _, _, _ => trivial
  | x :: ss, L, hn, hz, h => by
    have hp : (L.headD (0, 0)).2 = 0 := by
      cases L with
      | nil => rfl
      | cons p L => exact hz p (by simp)
    simp only [srcIds, List.nodup_append] at hn
    obtain ⟨n1, n2, n3⟩ := hn
    refine ⟨?_, tgtL_tau hl n2 (fun p hp => hz p (List.mem_of_mem_drop hp)) (fun r hr s => ?_)⟩
    · cases x with
      | nul => exact hp
      | row r =>
        refine ⟨hp, fun s => ?_⟩
        have := h r (by simp [srcIds, Sr.id]) s
        simp only [tauS, srcLab, if_true] at this
        have e : Lab.of (L.headD (0, 0)).1 s = τ r s := Option.some.inj this
        rw [e]; exact hl r s
      | inn r i f =>
        intro o ts l v a hq
        have := h r (by simp [srcIds, Sr.id]) (i * ts.size + f + 1)
        simp only [tauS, srcLab, if_true, hq] at this
        have e : Lab.of (L.headD (0, 0)).1 (L.headD (0, 0)).2 = τ r (i * ts.size + f + 1) := Option.some.inj this
        rw [e]; exact hl r _
      | box r f n =>
        refine ⟨hp, ?_⟩
        have := h r (by simp [srcIds, Sr.id]) 0
        simp only [tauS, srcLab, if_true] at this
        have e : Lab.of (L.headD (0, 0)).1 0 = τ r 0 := Option.some.inj this
        rw [e]; exact fun b o _ j _ hb ho => (hl r 0 _ _ hb ho).1
    · have hx : r ∉ x.id := fun hx => n3 r hx r hr rfl
      have := h r (by simp [srcIds, hr]) s
      simp only [tauS, srcLab_none hx] at this
      exact this
/-! ### Roots that are put -/
/-- what root's items put -/
def RtAll (σ : St) (P : Nat → Root → Prop) : List It → (t : Ty) → t.den → Prop
  | i :: is, .cons t ts, x => (match i.p with | .root r => ∃ q, rootPut σ r t x.1 = [.root r q] ∧ P r q | _ => True) ∧ RtAll σ P is ts x.2
  | _, _, _ => True
/-- what cells' items put -/
def ClAll (B : Nat → Nat → AV → Prop) : List It → (t : Ty) → t.den → Nat → Prop
  | i :: is, .cons t ts, x, n => match i.p with
    | .root r => ClAll B is ts x.2 n
    | .cell r f => B r f (inOne i.m t x.1 n) ∧ ClAll B is ts x.2 (n + idsOne i.m t)
    | .slot _ => ClAll B is ts x.2 (n + idsOne i.m t)
  | _, _, _, _ => True
theorem setCell_other {q : Root} (hb : ∀ cs ss, q.k ≠ .box cs ss) (f : Nat) (v : AV) : setCell q f v = q := by
  unfold setCell
  cases hk : q.k with
  | box cs ss => exact absurd hk (hb cs ss)
  | _ => rfl
/-- a row's root is put by a root's item, or not at all -/
theorem put_row {σ : St} {P : Nat → Root → Prop} (hP : ∀ r q, P r q → ∀ cs ss, q.k ≠ .box cs ss) {r : Nat} : ∀ (is : List It) (x : (itTys is).den) (n : Nat) (q : Root), (∀ cs ss, q.k ≠ .box cs ss) → RtAll σ P is (itTys is) x →
    (r ∉ rootIts is → putAt r (decPuts σ is (itTys is) x n) q = q) ∧ (r ∈ rootIts is → P r (putAt r (decPuts σ is (itTys is) x n) q))
  | [], x, n, q, hb, _ => ⟨fun _ => rfl, fun h => by cases h⟩
  | ⟨.slot s, m, t⟩ :: is, x, n, q, hb, hg => put_row hP is x.2 _ q hb hg.2
  | ⟨.cell r' f, m, t⟩ :: is, x, n, q, hb, hg => by
    have := put_row hP is x.2 (n + idsOne m t) q hb hg.2 (r := r)
    have e : putAt r (decPuts σ (⟨.cell r' f, m, t⟩ :: is) (itTys (⟨.cell r' f, m, t⟩ :: is)) x n) q = putAt r (decPuts σ is (itTys is) x.2 (n + idsOne m t)) q := by
      show putAt r _ (match Nat.beq r' r with | true => setCell q f _ | false => q) = _
      rw [setCell_other hb]
      cases Nat.beq r' r <;> rfl
    rw [e]; exact this
  | ⟨.root r', m, t⟩ :: is, x, n, q, hb, hg => by
    obtain ⟨⟨q1, hq1, hp1⟩, hg⟩ := hg
    have e : putAt r (decPuts σ (⟨.root r', m, t⟩ :: is) (itTys (⟨.root r', m, t⟩ :: is)) x n) q = putAt r (decPuts σ is (itTys is) x.2 n) (match Nat.beq r' r with | true => q1 | false => q) := by
      show putAt r (rootPut σ r' t x.1 ++ decPuts σ is (itTys is) x.2 n) q = _
      rw [hq1]; rfl
    rw [e]
    cases hbq : Nat.beq r' r with
    | true =>
      have er := beq_nat hbq
      subst er
      obtain ⟨h1, h2⟩ := put_row hP is x.2 n q1 (hP _ _ hp1) hg (r := r')
      refine ⟨fun h => absurd (by simp [rootIts]) h, fun _ => ?_⟩
      by_cases hm : r' ∈ rootIts is
      · exact h2 hm
      · simp only [h1 hm]; exact hp1
    | false =>
      have er : r ≠ r' := fun e => by subst e; rw [Nat.beq_refl] at hbq; cases hbq
      obtain ⟨h1, h2⟩ := put_row hP is x.2 n q hb hg (r := r)
      exact ⟨fun h => h1 (fun hm => h (by simp [rootIts, hm])), fun h => h2 (by simpa [rootIts, er] using h)⟩
theorem getD_set_eq {α : Type} {l : List α} {i : Nat} {y d : α} (h : i < l.length) : (l.set i y).getD i d = y := by simp [List.getD_eq_getElem?_getD, h]
theorem getD_set_ne {α : Type} {l : List α} {i j : Nat} {y d : α} (h : i ≠ j) : (l.set i y).getD j d = l.getD j d := by simp [List.getD_eq_getElem?_getD, List.getElem?_set_ne h]
/-- a box's cells are put by cells' items -/
theorem put_box {σ : St} {P : Nat → Root → Prop} {B : Nat → Nat → AV → Prop} {r ver anc : Nat} : ∀ (is : List It) (x : (itTys is).den) (n : Nat) (cs : List AV) (ss : List Nat), ss.length = cs.length → r ∉ rootIts is → RtAll σ P is (itTys is) x → ClAll B is (itTys is) x n →
    ∃ cs' ss', putAt r (decPuts σ is (itTys is) x n) ⟨.box cs ss, ver, anc⟩ = ⟨.box cs' ss', ver, anc⟩ ∧ cs'.length = cs.length ∧ ss'.length = ss.length ∧
      ∀ f, (¬ (isItem is r f = true ∧ f < cs.length) ∧ cs'.getD f .undef = cs.getD f .undef ∧ ss'.getD f 0 = ss.getD f 0) ∨ (isItem is r f = true ∧ f < cs.length ∧ ss.getD f 0 < ss'.getD f 0 ∧ B r f (cs'.getD f .undef))
  | [], x, n, cs, ss, hl, _, _, _ => ⟨cs, ss, rfl, rfl, rfl, fun f => .inl ⟨fun h => (by cases h.1), rfl, rfl⟩⟩
  | ⟨.slot s, m, t⟩ :: is, x, n, cs, ss, hl, hr, hg, hc => put_box is x.2 _ cs ss hl hr hg.2 hc
  | ⟨.root r', m, t⟩ :: is, x, n, cs, ss, hl, hr, hg, hc => by
    obtain ⟨⟨q1, hq1, _⟩, hg⟩ := hg
    have er : Nat.beq r' r = false := by
      cases h : Nat.beq r' r with
      | false => rfl
      | true => exact absurd (by simp [rootIts, beq_nat h]) hr
    obtain ⟨cs', ss', e, h⟩ := put_box (ver := ver) (anc := anc) is x.2 n cs ss hl (fun (hm : r ∈ rootIts is) => hr (by simp [rootIts, hm])) hg hc
    refine ⟨cs', ss', ?_, h⟩
    show putAt r (rootPut σ r' t x.1 ++ decPuts σ is (itTys is) x.2 n) _ = _
    rw [hq1, List.singleton_append, putAt, er]; exact e
  | ⟨.cell r' f', m, t⟩ :: is, x, n, cs, ss, hl, hr, hg, hc => by
    obtain ⟨hb, hc⟩ := hc
    have hit : ∀ f, isItem (⟨.cell r' f', m, t⟩ :: is) r f = ((Nat.beq r' r && Nat.beq f' f) || isItem is r f) := fun f => rfl
    cases er : Nat.beq r' r with
    | false =>
      obtain ⟨cs', ss', e, h1, h2, h3⟩ := put_box (ver := ver) (anc := anc) is x.2 (n + idsOne m t) cs ss hl hr hg.2 hc
      refine ⟨cs', ss', ?_, h1, h2, fun f => ?_⟩
      · show putAt r _ (match Nat.beq r' r with | true => _ | false => _) = _
        rw [er]; exact e
      · rw [hit, er]; exact h3 f
    | true =>
      have e' := beq_nat er
      subst e'
      obtain ⟨cs', ss', e, h1, h2, h3⟩ := put_box (ver := ver) (anc := anc) is x.2 (n + idsOne m t) (cs.set f' (inOne m t x.1 n)) (ss.set f' (ss.getD f' 0 + 1)) (by simp [hl]) hr hg.2 hc
      refine ⟨cs', ss', ?_, by simpa using h1, by simpa using h2, fun f => ?_⟩
      · show putAt r' _ (match Nat.beq r' r' with | true => setCell _ f' _ | false => _) = _
        rw [er]; exact e
      · rw [hit, er]
        rw [List.length_set] at h3
        by_cases hf : f' = f
        · subst hf
          by_cases hlt : f' < cs.length
          · right
            have e1 : (cs.set f' (inOne m t x.1 n)).getD f' .undef = inOne m t x.1 n := getD_set_eq hlt
            have e2 : (ss.set f' (ss.getD f' 0 + 1)).getD f' 0 = ss.getD f' 0 + 1 := getD_set_eq (by omega)
            rcases h3 f' with ⟨_, g1, g2⟩ | ⟨_, _, g1, g2⟩
            · exact ⟨by simp, hlt, by rw [g2, e2]; omega, by rw [g1, e1]; exact hb⟩
            · exact ⟨by simp, hlt, by rw [e2] at g1; omega, g2⟩
          · left
            rcases h3 f' with ⟨_, g1, g2⟩ | ⟨_, g0, _⟩
            · refine ⟨fun h => hlt h.2, ?_, ?_⟩
              · rw [g1, List.set_eq_of_length_le (by omega)]
              · rw [g2, List.set_eq_of_length_le (by omega)]
            · exact absurd g0 hlt
        · have e0 : Nat.beq f' f = false := by
            cases h : Nat.beq f' f with
            | false => rfl
            | true => exact absurd (beq_nat h) hf
          rw [e0]
          have := h3 f
          rw [getD_set_ne hf, getD_set_ne hf] at this
          simpa using this
/-! ### The base -/
theorem killOne_idem (q : Root) : killOne (killOne q) = killOne q := by
  obtain ⟨k, v, a⟩ := q
  cases k <;> rfl
theorem kill_get : ∀ (rs : List Nat) (σ : St) (r : Nat), (kill σ rs).roots[r]? = if r ∈ rs then (σ.roots[r]?).map killOne else σ.roots[r]?
  | [], σ, r => by simp [kill]
  | m :: rs, σ, r => by
    rw [kill, kill_get rs]
    have h1 : ∀ x, (killAt σ m).roots[x]? = if x = m then (σ.roots[x]?).map killOne else σ.roots[x]? := by
      intro x
      unfold killAt
      cases hm : σ.roots[m]? with
      | none =>
        by_cases e : x = m
        · subst e; simp [hm]
        · simp [e]
      | some q =>
        have hlt : m < σ.roots.length := (List.getElem?_eq_some_iff.1 hm).1
        by_cases e : x = m
        · subst e; simp only [setRoot, List.getElem?_set_self hlt, hm, if_true, Option.map_some]
        · simp [setRoot, e, List.getElem?_set_ne (Ne.symm e)]
    rw [h1 r]
    by_cases e : r = m
    · subst e
      by_cases hr : r ∈ rs
      · simp only [hr, if_true, List.mem_cons, or_true]
        cases σ.roots[r]? with
        | none => rfl
        | some q => simp [killOne_idem]
      · simp [hr]
    · simp [e]
theorem kill_tmps : ∀ (rs : List Nat) (σ : St), (kill σ rs).tmps = σ.tmps
  | [], _ => rfl
  | r :: rs, σ => by
    rw [kill, kill_tmps rs]
    unfold killAt
    cases σ.roots[r]? <;> rfl
theorem kill_len : ∀ (rs : List Nat) (σ : St), (kill σ rs).roots.length = σ.roots.length
  | [], _ => rfl
  | r :: rs, σ => by
    rw [kill, kill_len rs]
    unfold killAt
    cases σ.roots[r]? <;> simp [setRoot]
theorem wipe_roots : ∀ (ds : List Nat) (σ : St), (wipe σ ds).roots = σ.roots
  | [], _ => rfl
  | d :: ds, σ => by rw [wipe, wipe_roots ds]; rfl
theorem wipe_get : ∀ (ds : List Nat) (σ : St) (t : Nat), (t ∉ ds → (wipe σ ds).get t = σ.get t) ∧ (t ∈ ds → (wipe σ ds).get t = .undef)
  | [], σ, t => ⟨fun _ => rfl, fun h => by cases h⟩
  | d :: ds, σ, t => by
    obtain ⟨h1, h2⟩ := wipe_get ds (σ.put (some d) .undef) t
    have e1 : t ≠ d → (σ.put (some d) .undef).get t = σ.get t := fun e => by
      simp only [St.put, St.get]; exact getD_set_ne (Ne.symm e)
    have e2 : t = d → (σ.put (some d) .undef).get t = .undef := fun e => by
      subst e
      simp only [St.put, St.get]
      by_cases h : t < σ.tmps.length
      · exact getD_set_eq h
      · rw [List.getD_eq_getElem?_getD, List.getElem?_eq_none (by simp; omega)]; rfl
    refine ⟨fun h => ?_, fun h => ?_⟩
    · simp only [List.mem_cons, not_or] at h
      rw [wipe, h1 h.2, e1 h.1]
    · by_cases hm : t ∈ ds
      · rw [wipe]; exact h2 hm
      · rw [wipe, h1 hm]
        simp only [List.mem_cons] at h
        exact e2 (h.resolve_right hm)
theorem wipe_len : ∀ (ds : List Nat) (σ : St), (wipe σ ds).tmps.length = σ.tmps.length
  | [], _ => rfl
  | d :: ds, σ => by rw [wipe, wipe_len ds]; simp [St.put]
theorem keptRoots_get {is : List It} {dead : List Nat} : ∀ {ps qs : List Root} {n : Nat}, keptRoots is dead n ps qs = true → ∀ r p, ps[r]? = some p → ∃ q, qs[r]? = some q ∧ keptOne is dead (n + r) p q = true
  | [], qs, n, _, r, p, hp => by simp at hp
  | p0 :: ps, [], n, h, r, p, hp => by cases h
  | p0 :: ps, q0 :: qs, n, h, r, p, hp => by
    obtain ⟨h1, h2⟩ := and2 h
    cases r with
    | zero => simp at hp; subst hp; exact ⟨q0, rfl, h1⟩
    | succ r =>
      obtain ⟨q, e, g⟩ := keptRoots_get h2 r p (by simpa using hp)
      exact ⟨q, by simpa using e, by rwa [show n + 1 + r = n + (r + 1) by omega] at g⟩
theorem keptSt_get {is : List It} {r : Nat} : ∀ {ss ts : List Nat} {n : Nat}, keptSt is r n ss ts = true → ss.length = ts.length ∧ ∀ f, isItem is r (n + f) = true ∨ ss.getD f 0 = ts.getD f 0
  | [], [], n, _ => ⟨rfl, fun f => .inr rfl⟩
  | [], _ :: _, n, h => by cases h
  | _ :: _, [], n, h => by cases h
  | s :: ss, t :: ts, n, h => by
    obtain ⟨h1, h2⟩ := and2 h
    obtain ⟨g1, g2⟩ := keptSt_get h2
    refine ⟨by simp [g1], fun f => ?_⟩
    cases f with
    | zero =>
      rcases Bool.or_eq_true_iff.1 h1 with e | e
      · exact .inr (beq_nat e)
      · exact .inl e
    | succ f =>
      rcases g2 f with e | e
      · exact .inl (by rwa [show n + 1 + f = n + (f + 1) by omega] at e)
      · exact .inr (by simpa using e)
theorem freshIds_get {R : List Root} {ok : List Nat} : ∀ {rs : List Nat}, freshIds R ok rs = true → ∀ r ∈ rs, R.length ≤ r ∨ (r ∈ ok ∧ isBoxAt R r = false)
  | [], _, r, h => by cases h
  | x :: rs, h, r, hr => by
    obtain ⟨h1, h2⟩ := and2 h
    rcases List.mem_cons.1 hr with e | hr
    · subst e
      rcases Bool.or_eq_true_iff.1 h1 with e | e
      · exact .inl (ble_nat e)
      · obtain ⟨e1, e2⟩ := and2 e
        exact .inr ⟨mem_memN.1 e1, by simpa using e2⟩
    · exact freshIds_get h2 r hr
theorem tauS_some {R : List Root} : ∀ {ss : List Sr} {L : List (Nat × Nat)} {r s : Nat}, r ∈ srcIds ss → ∃ l, tauS R ss L r s = some l
  | x :: ss, L, r, s, h => by
    simp only [srcIds, List.mem_append] at h
    simp only [tauS]
    cases hx : srcLab R x (L.headD (0, 0)) r s with
    | some l => exact ⟨l, rfl⟩
    | none =>
      refine tauS_some (h.resolve_left (fun hm => ?_))
      cases x with
      | nul => cases hm
      | row r' => simp only [Sr.id, List.mem_singleton] at hm; simp [srcLab, hm] at hx
      | inn r' i f => simp only [Sr.id, List.mem_singleton] at hm; simp [srcLab, hm] at hx
      | box r' f n => simp only [Sr.id, List.mem_singleton] at hm; simp [srcLab, hm] at hx
theorem clAll_of {G G' : Gh} {R R' : List Root} {a : Act} {w : World} : ∀ (is : List It) (x : (itTys is).den) (vs : List Value) (n : Nat), ItGood G R w is (itTys is) x n vs → ItVals G' R' a w is vs → vs.length = is.length →
    ClAll (fun r f av => ∃ v, (avR G R w av).1 v ∧ ItVal G' R' a w (.cell r f) v) is (itTys is) x n
  | [], _, _, _, _, _, _ => trivial
  | i :: is, x, [], n, _, _, hl => by simp at hl
  | ⟨.root r, m, t⟩ :: is, x, v :: vs, n, hg, hv, hl => clAll_of is x.2 vs n hg hv.2 (by simpa using hl)
  | ⟨.slot s, m, t⟩ :: is, x, v :: vs, n, hg, hv, hl => clAll_of is x.2 vs _ hg.2 hv.2 (by simpa using hl)
  | ⟨.cell r f, m, t⟩ :: is, x, v :: vs, n, hg, hv, hl => ⟨⟨v, hg.1, hv.1⟩, clAll_of is x.2 vs _ hg.2 hv.2 (by simpa using hl)⟩
/-- what a root's item puts -/
def RtP (G G' : Gh) (R' : List Root) (a : Act) (w : World) (R0 : List Root) (r : Nat) (q : Root) : Prop :=
  ∃ o ts l ver anc, R0[r]? = some ⟨.row o ts l, ver, anc⟩ ∧ ∃ l' : List ts.den, q = ⟨.row o ts l', ver + 1, anc⟩ ∧ ∃ a0 c, rowG G w (cvOf G w r o) (.of r 0) ts l' a0 c ∧ ItVal G' R' a w (.root r) (.slice a0 (List.length l') c)
theorem eq?_some {a b : Ty} (h : (a.eq? b).isSome = true) : a = b := by
  cases e : a.eq? b with
  | none => rw [e] at h; cases h
  | some p => exact p.down
theorem rtAll_of {G G' : Gh} {σ : St} {R' : List Root} {a : Act} {w : World} : ∀ (is : List It) (x : (itTys is).den) (vs : List Value), rootItsOk σ.roots is = true → RtGood G w is (itTys is) x vs → ItVals G' R' a w is vs → vs.length = is.length →
    RtAll σ (RtP G G' R' a w σ.roots) is (itTys is) x
  | [], _, _, _, _, _, _ => trivial
  | i :: is, x, [], _, _, _, hl => by simp at hl
  | ⟨.slot s, m, t⟩ :: is, x, v :: vs, hr, hg, hv, hl => ⟨trivial, rtAll_of is x.2 vs hr hg.2 hv.2 (by simpa using hl)⟩
  | ⟨.cell r f, m, t⟩ :: is, x, v :: vs, hr, hg, hv, hl => ⟨trivial, rtAll_of is x.2 vs hr hg.2 hv.2 (by simpa using hl)⟩
  | ⟨.root r, m, t⟩ :: is, x, v :: vs, hr, hg, hv, hl => by
    simp only [rootItsOk] at hr
    obtain ⟨hr1, hr2⟩ := and2 hr
    refine ⟨?_, rtAll_of is x.2 vs hr2 hg.2 hv.2 (by simpa using hl)⟩
    split at hr1
    · rename_i o ts l ver anc us hq
      obtain ⟨hr1, hr4⟩ := and2 hr1
      obtain ⟨hr1, hr5⟩ := and2 hr1
      obtain ⟨hr1, hr6⟩ := and2 hr1
      have e := eq?_some hr4
      subst e
      have hsm : isOwn m.sm (.slice ts) = true := by simp only [isOwn, Ty.isSl, Bool.and_true]; exact hr6
      have hone : hCell G w m.sm (.slice ts) x.1 v (r, 0) := hg.1
      unfold hCell at hone
      rw [hsm] at hone
      obtain ⟨a0, c, ev, hrow, _⟩ := hone
      have ho : o = (Nat.beq m.sm 2 && ts.hasSl) := eq_of_beq hr5
      refine ⟨⟨.row o ts x.1, ver + 1, anc⟩, by simp [rootPut, hq], o, ts, l, ver, anc, hq, x.1, rfl, a0, c, by rw [ho]; exact hrow, ?_⟩
      have := hv.1
      rw [ev] at this; exact this
    · cases hr1
theorem decTmps_len : ∀ (is : List It) (x : (itTys is).den) (n : Nat) (l : List AV), (decTmps is (itTys is) x n l).length = l.length
  | [], _, _, _ => rfl
  | ⟨.root r, m, t⟩ :: is, x, n, l => decTmps_len is x.2 n l
  | ⟨.cell r f, m, t⟩ :: is, x, n, l => decTmps_len is x.2 _ l
  | ⟨.slot s, m, t⟩ :: is, x, n, l => (decTmps_len is x.2 _ _).trans (by simp)
theorem tmps_of {G G' : Gh} {R R' : List Root} {a : Act} {w : World} : ∀ (is : List It) (x : (itTys is).den) (vs : List Value) (n : Nat) (l : List AV), ItGood G R w is (itTys is) x n vs → ItVals G' R' a w is vs → vs.length = is.length →
    (∀ t, (avR G R w (l.getD t .undef)).1 (a.tmps.getD t undef)) → ∀ t, (avR G R w ((decTmps is (itTys is) x n l).getD t .undef)).1 (a.tmps.getD t undef)
  | [], _, _, _, l, _, _, _, h => h
  | i :: is, x, [], n, l, _, _, hl, _ => by simp at hl
  | ⟨.root r, m, t⟩ :: is, x, v :: vs, n, l, hg, hv, hl, h => tmps_of is x.2 vs n l hg hv.2 (by simpa using hl) h
  | ⟨.cell r f, m, t⟩ :: is, x, v :: vs, n, l, hg, hv, hl, h => tmps_of is x.2 vs _ l hg.2 hv.2 (by simpa using hl) h
  | ⟨.slot s, m, t⟩ :: is, x, v :: vs, n, l, hg, hv, hl, h => tmps_of is x.2 vs _ _ hg.2 hv.2 (by simpa using hl) (fun t' => by
      by_cases e : s = t'
      · subst e
        by_cases hs : s < l.length
        · rw [getD_set_eq hs]
          have e : v = a.tmps.getD s undef := hv.1
          rw [← e]; exact hg.1
        · rw [List.set_eq_of_length_le (by omega)]; exact h s
      · rw [getD_set_ne e]; exact h t')
/-- two frames agree but for some temporaries -/
structure Agree (D : List Nat) (a a' : Act) : Prop where
  size : a'.tmps.size = a.tmps.size
  tmps : ∀ t, t ∉ D → a'.tmps.getD t undef = a.tmps.getD t undef
theorem itVals_len {σ : St} {is : List It} : (places σ is).length = is.length := by
  induction is with
  | nil => rfl
  | cons i is ih => simp [places, ih]
theorem isBox_of {R : List Root} {r : Nat} {cs : List AV} {ss : List Nat} {v a : Nat} (h : R[r]? = some ⟨.box cs ss, v, a⟩) : isBoxAt R r = true := by simp [isBoxAt, h]
theorem keptOne_box {is : List It} {dead : List Nat} {r : Nat} {p q : Root} {cs : List AV} {ss : List Nat} (hp : p.k = .box cs ss) (h : keptOne is dead r p q = true) : ∃ cs' ss', q.k = .box cs' ss' ∧ keptSt is r 0 ss ss' = true := by
  unfold keptOne at h
  rw [hp] at h
  cases hq : q.k with
  | box cs' ss' => rw [hq] at h; exact ⟨_, _, rfl, h⟩
  | _ => rw [hq] at h; cases h
theorem keptOne_row {is : List It} {dead : List Nat} {r : Nat} {p q : Root} (hp : ∀ cs ss, p.k ≠ .box cs ss) (h : keptOne is dead r p q = true) : r ∈ dead ∨ (r ∈ rootIts is ∧ p.anc = q.anc) ∨ p.ver = q.ver := by
  have h : (memN r dead || (memN r (rootIts is) && Nat.beq p.anc q.anc) || Nat.beq p.ver q.ver) = true := by
    unfold keptOne at h
    cases hk : p.k with
    | box cs ss => exact absurd hk (hp _ _)
    | _ => rw [hk] at h; cases hq : q.k <;> rw [hq] at h <;> exact h
  · rcases Bool.or_eq_true_iff.1 h with h | h
    · rcases Bool.or_eq_true_iff.1 h with h | h
      · exact .inl (mem_memN.1 h)
      · obtain ⟨h1, h2⟩ := and2 h
        exact .inr (.inl ⟨mem_memN.1 h1, beq_nat h2⟩)
    · exact .inr (.inr (beq_nat h))
theorem rootIts_row {R : List Root} : ∀ {is : List It}, rootItsOk R is = true → ∀ {r : Nat}, r ∈ rootIts is → ∃ o ts l v a, R[r]? = some ⟨.row o ts l, v, a⟩
  | [], _, r, h => by cases h
  | ⟨.slot s, m, t⟩ :: is, hr, r, h => rootIts_row (is := is) hr h
  | ⟨.cell s f, m, t⟩ :: is, hr, r, h => rootIts_row (is := is) hr h
  | ⟨.root r', m, t⟩ :: is, hr, r, h => by
    simp only [rootItsOk] at hr
    obtain ⟨hr1, hr2⟩ := and2 hr
    rcases List.mem_cons.1 h with e | h
    · subst e
      split at hr1
      · rename_i o ts l ver anc us hq
        exact ⟨_, _, _, _, _, hq⟩
      · cases hr1
    · exact rootIts_row hr2 h
theorem le_same {q q' : Root} (h : q.le q') (hb : ∀ cs ss, q.k ≠ .box cs ss) (hv : q.ver = q'.ver) : q' = q := by
  unfold Root.le at h
  cases hk : q.k with
  | box cs ss => exact absurd hk (hb cs ss)
  | _ => rw [hk] at h; exact h.2.2 hv.symm
theorem le_box {q q' : Root} (h : q.le q') {cs : List AV} {ss : List Nat} (hk : q.k = .box cs ss) : ∃ cs' ss', q'.k = .box cs' ss' ∧ cs'.length = cs.length := by
  unfold Root.le at h
  rw [hk] at h
  obtain ⟨cs', ss', e, l, _⟩ := h
  exact ⟨cs', ss', e, l⟩
theorem meet_core {G G' : Gh} {σ σ' base : St} {a a' : Act} {w w' : World} {dead : List Nat} {is : List It} {c : (itTys is).den} (hR : Rel G σ a w) (hE : Evo G σ.roots w G' σ'.roots w') (hR' : Rel G' σ' a' w') (hsz : a'.tmps.size = a.tmps.size)
    (hbr : ∀ r, base.roots[r]? = if r ∈ dead then (σ.roots[r]?).map killOne else σ.roots[r]?) (hbl : base.roots.length = σ.roots.length)
    (hbt : ∀ t, (avR G σ.roots w (base.get t)).1 (a'.tmps.getD t undef)) (hbtl : base.tmps.length = σ.tmps.length)
    (henc : enc base σ' dead is (itTys is) = some c) :
    ∃ G'', Rel G'' (dec base is (itTys is) c) a' w' ∧ Evo G σ.roots w G'' (dec base is (itTys is) c).roots w' := by
  unfold enc at henc
  simp only at henc
  split at henc
  · rename_i hcond
    obtain ⟨hcond, c7⟩ := and2 hcond
    obtain ⟨hcond, c8⟩ := and2 hcond
    obtain ⟨hcond, c6⟩ := and2 hcond
    obtain ⟨hcond, c5⟩ := and2 hcond
    obtain ⟨hcond, c4⟩ := and2 hcond
    obtain ⟨hcond, c3⟩ := and2 hcond
    obtain ⟨c1, c2⟩ := and2 hcond
    have c1 := nodup_nodupN.1 c1
    have c2 := apart_apartN.1 c2
    have c3 := freshIds_get c3
    have c4 := freshIds_get c4
    have c5 := apart_apartN.1 c5
    have c7 := keptRoots_get c7
    obtain ⟨vs, hvl, hva, hvv⟩ := places_vals hR' is
    have hvl' : vs.length = is.length := hvl.symm.trans itVals_len
    generalize hss : srcAll σ' (itTys is) (itMds is) (places σ' is) = ss at c1 c2 c3
    generalize hro : roAll σ' (itTys is) (itMds is) (places σ' is) = ro at c2 c4
    -- the turn of labels
    let τ : Nat → Nat → Lab := fun r s => match tauS σ'.roots ss (tgts is base.roots.length) r s with
      | some l => l
      | none => if memN r ro then .free else if decide (r < base.roots.length) && (!memN r dead || isBoxAt base.roots r) then .of r s else .free
    have hlk : ∀ r s, Lk G' w' (relab G' τ) w' (.of r s) (τ r s) := fun r s => lk_relab τ r s
    have hfr : Fr G' w' (relab G' τ) w' (fun _ => True) := fr_relab (fun r hr => absurd trivial hr)
    have hall : hAll (relab G' τ) w' (itTys is) c (itMds is) vs (tgts is base.roots.length) := by
      refine out_all (tm := σ'.tmps) hR'.roots hfr.free henc hvl hva (fun r hr s => ?_) ?_
      · have hr : r ∈ ro := hro ▸ hr
        have e : τ r s = .free := by
          show (match tauS σ'.roots ss (tgts is base.roots.length) r s with | some l => l | none => _) = _
          rw [tauS_none (c2 r hr)]
          simp [mem_memN.2 hr]
        have := hlk r s
        rwa [e] at this
      · rw [show srcAll ⟨σ'.tmps, σ'.roots⟩ (itTys is) (itMds is) (places σ' is) = ss from hss]
        refine tgtL_tau hlk c1 (tgts_zero is _) (fun r hr s => ?_)
        obtain ⟨l, hl⟩ := tauS_some (R := σ'.roots) (L := tgts is base.roots.length) (s := s) hr
        show _ = some (match tauS σ'.roots ss (tgts is base.roots.length) r s with | some l => l | none => _)
        rw [hl]
    -- roots that are kept keep their labels
    have hkeep : ∀ r, r < base.roots.length → r ∉ dead ∨ isBoxAt base.roots r = true → (isBoxAt base.roots r = true ∨ r ∉ rootIts is) → ∀ s, τ r s = .of r s := by
      intro r hr h1 h2 s
      have hns : r ∉ srcIds ss := fun hm => by
        rcases c3 r hm with h | ⟨h, hb⟩
        · omega
        · rcases List.mem_append.1 h with h | h
          · rcases h1 with h1 | h1
            · exact h1 h
            · rw [h1] at hb; cases hb
          · rcases h2 with h2 | h2
            · rw [h2] at hb; cases hb
            · exact h2 h
      have hnr : r ∉ ro := fun hm => by
        rcases c4 r hm with h | ⟨h, hb⟩
        · omega
        · rcases h1 with h1 | h1
          · exact h1 h
          · rw [h1] at hb; cases hb
      show (match tauS σ'.roots ss (tgts is base.roots.length) r s with | some l => l | none => _) = _
      rw [tauS_none hns]
      have e1 : memN r ro = false := by
        cases e : memN r ro with
        | false => rfl
        | true => exact absurd (mem_memN.1 e) hnr
      have e2 : (decide (r < base.roots.length) && (!memN r dead || isBoxAt base.roots r)) = true := by
        rcases h1 with h1 | h1
        · have e3 : memN r dead = false := by
            cases e : memN r dead with
            | false => rfl
            | true => exact absurd (mem_memN.1 e) h1
          simp [hr, e3]
        · simp [hr, h1]
      simp only [e1, e2, if_true]
      rfl
    obtain ⟨⟨hNl, A, hAl, hin⟩, hrt⟩ := items_in is c vs base.roots.length c6 hall
    let an : Nat → Option Addr × Nat := fun r => if r < base.roots.length then G'.anch r else A.getD (r - base.roots.length) (none, 0)
    have han : ∀ r, r < base.roots.length → an r = G'.anch r := fun r hr => if_pos hr
    have hfin : ∀ j q, (decRows is (itTys is) c base.roots.length)[j]? = some q → (dec base is (itTys is) c).roots[base.roots.length + j]? = some q := fun j q hq => by
      show (puts _ base.roots ++ _)[_]? = _
      rw [List.getElem?_append_right (by rw [puts_len]; omega), puts_len, Nat.add_sub_cancel_left]; exact hq
    obtain ⟨g1, g2⟩ := hin an (fun j hj => by
      show (if _ then _ else _) = _
      rw [if_neg (by omega), Nat.add_sub_cancel_left]) (dec base is (itTys is) c).roots hfin
    have hget : ∀ r q, base.roots[r]? = some q → (dec base is (itTys is) c).roots[r]? = some (putAt r (decPuts base is (itTys is) c base.roots.length) q) := fun r q hq => by
      have hlt := (List.getElem?_eq_some_iff.1 hq).1
      show (puts _ base.roots ++ _)[_]? = _
      rw [List.getElem?_append_left (by rw [puts_len]; exact hlt), puts_get, hq]; rfl
    have hP : ∀ r q, RtP (relab G' τ) G' σ'.roots a' w' base.roots r q → ∀ cs ss, q.k ≠ .box cs ss := by
      rintro r q ⟨o, ts, l, ver, anc, _, l', e, _⟩ cs ss hk
      rw [e] at hk; cases hk
    have hrtA := rtAll_of (G := relab G' τ) (G' := G') (R' := σ'.roots) (a := a') (w := w') (σ := base) is c vs c6 hrt hvv hvl'
    have hclA := clAll_of is c vs base.roots.length g2 hvv hvl'
    generalize hRf : (dec base is (itTys is) c).roots = Rf at g1 g2 hget hclA
    have hmain := chg_spec (G := G) (G' := ⟨(relab G' τ).own, an⟩) (R := σ.roots) (Rf := Rf) (w := w) (w' := w') hR.roots
      ⟨hE.os, hE.tape, hE.output, hE.size, hE.free.trans hE.size hfr.free, hE.hid.trans hE.size hfr.hid⟩ (fun r q hq => ?_) (fun r q hr hq => ?_)
    · refine ⟨⟨(relab G' τ).own, an⟩, ⟨by rw [hRf]; exact hmain.1, hR'.defers, ?_, fun t => ?_⟩, hmain.2⟩
      · show (decTmps _ _ _ _ _).length ≤ _
        rw [decTmps_len, hbtl, hsz]; exact hR.size
      · show (avR _ (dec base is (itTys is) c).roots w' ((decTmps is (itTys is) c base.roots.length base.tmps).getD t .undef)).1 _
        rw [hRf]
        exact tmps_of is c vs base.roots.length base.tmps g2 hvv hvl' (fun t => (avR_evo hmain.2 _).1 _ (hbt t)) t
    · -- each root
      have hlt : r < base.roots.length := by rw [hbl]; exact (List.getElem?_eq_some_iff.1 hq).1
      obtain ⟨q', hq', hle⟩ := hE.root r q hq
      by_cases hbx : ∃ cs ss, q.k = .box cs ss
      · obtain ⟨cs, ss0, hk⟩ := hbx
        have hkill : killOne q = q := by unfold killOne; rw [hk]
        have hb : base.roots[r]? = some q := by
          rw [hbr r, hq]
          by_cases hd : r ∈ dead
          · rw [if_pos hd]; simp [hkill]
          · rw [if_neg hd]
        have eq : q = ⟨.box cs ss0, q.ver, q.anc⟩ := by rw [← hk]
        have hisb : isBoxAt base.roots r = true := isBox_of (eq ▸ hb)
        obtain ⟨q2, hq2, hk2⟩ := c7 r q hb
        rw [hq'] at hq2; cases hq2
        rw [Nat.zero_add] at hk2
        obtain ⟨cs', ss', hk', hst⟩ := keptOne_box hk hk2
        obtain ⟨hstl, hst⟩ := keptSt_get hst
        have hro0 := hR.roots r q hq
        unfold rootOk at hro0
        rw [hk] at hro0
        obtain ⟨hl0, b, o, ea, hcs⟩ := hro0
        have hro1 := hR'.roots r q' hq'
        unfold rootOk at hro1
        rw [hk'] at hro1
        obtain ⟨hl1, b1, o1, ea1, hcs1⟩ := hro1
        have hanch : G'.anch r = G.anch r := (hle.box .nil cs'.length (by rw [hk']; rfl)).2
        rw [hanch, ea] at ea1; cases ea1
        have hcl : cs'.length = cs.length := by
          obtain ⟨cs2, ss2, e2, l2⟩ := le_box hle.le hk
          rw [hk'] at e2; cases e2; exact l2
        have hnr : r ∉ rootIts is := fun hm => by
          obtain ⟨o, ts, l, v, a, e⟩ := rootIts_row c6 hm
          rw [hb, eq] at e; cases e
        obtain ⟨csf, ssf, hput, l1, l2, hf⟩ := put_box (σ := base) (ver := q.ver) (anc := q.anc) is c base.roots.length cs ss0 (by rw [hl0]) hnr hrtA hclA
        have hgr := hget r q hb
        rw [eq] at hgr
        rw [hput] at hgr
        refine ⟨_, hgr, .box cs csf ss0 ssf hk l1 l2 ?_ (fun b' o' ea' f => ?_)⟩
        · show an r = _
          rw [han r hlt, hanch]
        · rw [ea] at ea'; cases ea'
          have hτ : τ r 0 = .of r 0 := hkeep r hlt (.inr hisb) (.inl hisb) 0
          have hown : ∀ b p, G'.own b p = .of r 0 → (relab G' τ).own b p = .of r 0 := fun b p e => by
            simp only [relab, e]; exact hτ
          refine ⟨fun hlt => ?_, ?_⟩
          · obtain ⟨d1, d2, _⟩ := hcs1 f (by omega)
            exact ⟨hown _ _ d1, d2⟩
          · rcases hf f with ⟨e0, e1, e2⟩ | ⟨e0, e1, e2, v, e3, e4⟩
            · by_cases hit : isItem is r f = true
              · -- out of the box's cells
                have hge : ¬ f < cs.length := fun hl => e0 ⟨hit, hl⟩
                have hs0 : ss'.getD f 0 = ss0.getD f 0 := by
                  rw [List.getD_eq_getElem?_getD, List.getElem?_eq_none (by omega), List.getD_eq_getElem?_getD, List.getElem?_eq_none (by omega)]
                refine .inl ⟨e2, e1, fun ho hb => ?_⟩
                obtain ⟨k1, k2⟩ := hle.cell cs ss0 cs' ss' hk hk' f hs0 b o ea ho hb
                exact ⟨hown _ _ k1, k2⟩
              · have hs0 : ss'.getD f 0 = ss0.getD f 0 := by
                  rcases hst f with h | h
                  · rw [Nat.zero_add] at h; exact absurd h hit
                  · exact h.symm
                refine .inl ⟨e2, e1, fun ho hb => ?_⟩
                obtain ⟨k1, k2⟩ := hle.cell cs ss0 cs' ss' hk hk' f hs0 b o ea ho hb
                exact ⟨hown _ _ k1, k2⟩
            · refine .inr ⟨e2, v, ?_, e3⟩
              have eq' : q' = ⟨.box cs' ss', q'.ver, q'.anc⟩ := by rw [← hk']
              exact e4 cs' ss' q'.ver q'.anc b o (by rw [← eq']; exact hq') (by omega) (by rw [hanch]; exact ea)
      · have hnb : ∀ cs ss, q.k ≠ .box cs ss := fun cs ss e => hbx ⟨cs, ss, e⟩
        by_cases hd : r ∈ dead
        · have hb : base.roots[r]? = some (killOne q) := by rw [hbr r, if_pos hd, hq]; rfl
          have hnb' : ∀ cs ss, (killOne q).k ≠ .box cs ss := by
            intro cs ss e
            unfold killOne at e
            cases hk : q.k with
            | box _ _ => exact hnb _ _ hk
            | _ => rw [hk] at e; first | exact hnb _ _ e | cases e
          have hnr : r ∉ rootIts is := fun hm => c5 r hm hd
          have hgr := hget r _ hb
          rw [(put_row hP is c base.roots.length _ hnb' hrtA).1 hnr] at hgr
          refine ⟨_, hgr, ?_⟩
          cases hk : q.k with
          | dead =>
            have e : killOne q = q := by unfold killOne; rw [hk]
            rw [e]
            exact .kept (fun h => absurd (by rw [hk]; rfl) h) (fun _ h => absurd (by rw [hk]; rfl) h)
          | box cs ss => exact absurd hk (hnb cs ss)
          | row o ts l =>
            have e : killOne q = ⟨.dead, q.ver + 1, q.anc + 1⟩ := by unfold killOne; rw [hk]
            rw [e]
            exact .dead _ hnb rfl (Nat.lt_succ_self _) (Nat.lt_succ_self _)
          | fro ts l =>
            have e : killOne q = ⟨.dead, q.ver + 1, q.anc + 1⟩ := by unfold killOne; rw [hk]
            rw [e]
            exact .dead _ hnb rfl (Nat.lt_succ_self _) (Nat.lt_succ_self _)
        · have hb : base.roots[r]? = some q := by rw [hbr r, if_neg hd]; exact hq
          have hgr := hget r _ hb
          obtain ⟨q2, hq2, hk2⟩ := c7 r q hb
          rw [hq'] at hq2; cases hq2
          rw [Nat.zero_add] at hk2
          obtain ⟨p1, p2⟩ := put_row hP is c base.roots.length q hnb hrtA (r := r)
          have hanc : q'.anc = q.anc := by
            rcases keptOne_row hnb hk2 with h | ⟨_, h⟩ | h
            · exact absurd h hd
            · exact h.symm
            · rw [le_same hle.le hnb h]
          by_cases hm : r ∈ rootIts is
          · -- a row in its own place
            obtain ⟨o, ts, l, ver, anc, hb', l', e, a0, c0, hrow, hval⟩ := p2 hm
            rw [hb] at hb'; cases hb'
            rw [e] at hgr
            -- what stands there at the end is a row
            obtain ⟨o', ts', m', ver', anc', hrq⟩ := rootIts_row c8 hm
            rw [hq'] at hrq; cases hrq
            have hanch : G'.anch r = G.anch r ∧ ts' = ts ∧ List.length m' = List.length l := by
              rcases hle.hd hanc with d | ⟨d, d2⟩
              · cases d
              · simp only [RK.hd, Option.some.injEq, Prod.mk.injEq] at d
                exact ⟨d2, d.2.1, d.2.2⟩
            obtain ⟨ha, ht, hll⟩ := hanch
            have hv := hval o' ts' m' _ _ hq'
            simp only [Value.slice.injEq] at hv
            obtain ⟨v1, v2, v3⟩ := hv
            refine ⟨_, hgr, .row o ts l l' (ver + 1) rfl (by rw [← hll]; exact v2) (Nat.lt_succ_self _) ?_ ?_⟩
            · show an r = _
              rw [han r hlt]; exact ha
            · show rowG _ _ _ _ _ _ (an r).1 (an r).2
              rw [han r hlt, ← v1, ← v3]; exact hrow
          · have hq2 : q' = q := by
              rcases keptOne_row hnb hk2 with h | ⟨h, _⟩ | h
              · exact absurd h hd
              · exact absurd h hm
              · exact le_same hle.le hnb h
            rw [p1 hm] at hgr
            refine ⟨q, hgr, .kept (fun hh => ?_) (fun hf hh s => ?_)⟩
            · show an r = _
              rw [han r hlt]
              rcases hle.hd hanc with d | ⟨_, d⟩
              · rw [hq2] at d; exact absurd d hh
              · exact d
            · have hτ : ∀ s, τ r s = .of r s := hkeep r hlt (.inl hd) (.inr hm)
              have hl2 : Lk G' w' (relab G' τ) w' (.of r s) (.of r s) := by
                have := hlk r s
                rwa [hτ s] at this
              cases hk : q.k with
              | row o ts l => exact (hle.same o ts l hk (by rw [hq2]) s).trans hE.size hl2
              | fro ts l => exact absurd hk (hf ts l)
              | box cs ss => exact absurd hk (hnb cs ss)
              | dead => rw [hk] at hh; exact absurd rfl hh
    · have hq0 := hq
      rw [← hRf] at hq
      have hq : (puts (decPuts base is (itTys is) c base.roots.length) base.roots ++ decRows is (itTys is) c base.roots.length)[r]? = some q := hq
      rw [List.getElem?_append_right (by rw [puts_len, hbl]; exact hr), puts_len] at hq
      have := g1 _ q hq
      rwa [show base.roots.length + (r - base.roots.length) = r by omega] at this
  · cases henc
theorem meet_spec {G G' : Gh} {σ σ' : St} {a a' : Act} {w w' : World} {D : List Nat} (hR : Rel G σ a w) (hE : Evo G σ.roots w G' σ'.roots w') (hR' : Rel G' σ' a' w') (hA : Agree D a a') {h : Hint} {c : (itTys h.items).den}
    (henc : enc (baseOf σ h D) σ' (deadOf σ h) h.items (itTys h.items) = some c) :
    ∃ G'', Rel G'' (dec (baseOf σ h D) h.items (itTys h.items) c) a' w' ∧ Evo G σ.roots w G'' (dec (baseOf σ h D) h.items (itTys h.items) c).roots w' := by
  refine meet_core hR hE hR' hA.size (fun r => ?_) ?_ (fun t => ?_) ?_ henc
  · unfold baseOf; rw [wipe_roots, kill_get]
  · unfold baseOf; rw [wipe_roots, kill_len]
  · unfold baseOf
    by_cases ht : t ∈ D
    · rw [(wipe_get D _ t).2 ht]; exact trivial
    · rw [(wipe_get D _ t).1 ht, hA.tmps t ht]
      have : (kill σ (deadOf σ h)).get t = σ.get t := by simp only [St.get, kill_tmps]
      rw [this]; exact hR.tmps t
  · unfold baseOf; rw [wipe_len, kill_tmps]
end Go.Proofs.YtpihkhknehadbaaGreat.Eng
