/- Code does what the evaluator says. No condition. -/
import Derived.Test.YtpihkhknehadbaaGreatEngMeet
import Derived.Deep.LoopGhost
namespace Go.Proofs.YtpihkhknehadbaaGreat.Eng
open Go.RowKit
set_option linter.unusedVariables false
theorem Agree.refl (D : List Nat) (a : Act) : Agree D a a := ⟨rfl, fun _ _ => rfl⟩
theorem Agree.trans {D E F : List Nat} {a b c : Act} (h : Agree D a b) (k : Agree E b c) (hD : ∀ t ∈ D, t ∈ F) (hE : ∀ t ∈ E, t ∈ F) : Agree F a c :=
  ⟨k.size.trans h.size, fun t ht => (k.tmps t (fun h => ht (hE t h))).trans (h.tmps t (fun h => ht (hD t h)))⟩
theorem Agree.mono {D E : List Nat} {a b : Act} (h : Agree D a b) (hD : ∀ t ∈ D, t ∈ E) : Agree E a b := ⟨h.size, fun t ht => h.tmps t (fun hm => ht (hD t hm))⟩
theorem Agree.put {D : List Nat} {a : Act} {d : Option Nat} {x : Value} (h : ∀ n, d = some n → n ∈ D) : Agree D a (a.put d x) := by
  cases d with
  | none => exact Agree.refl _ _
  | some n =>
    refine ⟨by simp [Act.put], fun t ht => ?_⟩
    have : n ≠ t := fun e => ht (e ▸ h n rfl)
    simp [Act.put, Array.getElem?_setIfInBounds_ne this]
theorem put_same (a : Act) (d : Nat) : a.put (some d) (a.tmps.getD d undef) = a := by
  have : a.tmps.setIfInBounds d (a.tmps.getD d undef) = a.tmps := by
    apply Array.ext_getElem?
    intro i
    by_cases e : i = d
    · subst e
      by_cases hi : i < a.tmps.size
      · simp [hi]
      · simp [hi]
    · simp [Array.getElem?_setIfInBounds_ne (Ne.symm e)]
  show ({ a with tmps := _ } : Act) = a
  rw [this]
section
variable {P : Program} {tab : List (Nat × TI)} {soft : Bool} {Γ : List (Nat × Ent)} {R : Type} {r : R} {Q : Exit → Act → World → Prop}
/-- what each operation's evaluation comes to -/
def OpsOk (P : Program) (tab : List (Nat × TI)) (soft : Bool) (Γ : List (Nat × Ent)) (R : Type) (call : Nat → List AV → St → (AV → St → Option R) → Option R) (k : Nat) : Prop :=
  ∀ (o : Oper) (σ : St) (K : AV → St → Option R) (r : R), evOp tab soft Γ call k o σ K = some r → ∀ (G : Gh) (a : Act) (w : World) (next : Act → World → Prop) (Q : Exit → Act → World → Prop),
    Rel G σ a w → Nxt false G σ w a o.dst K r next → o.wp P a w next Q
variable {call : Nat → List AV → St → (AV → St → Option R) → Option R} {k : Nat}
/-- is an operation wanted: what the evaluator says -/
theorem evOne_cases {ops : Array Oper} {o : Oper} {σ : St} {K : St → Option R} (h : evOne tab soft Γ call k ops.toList o σ K = some r) {G : Gh} {a : Act} {w : World} (hR : Rel G σ a w) :
    (Region.wanted o (yielded ops a.tmps) = true ∧ ∃ σ0, Rel G σ0 a w ∧ σ0.roots = σ.roots ∧ (∀ t, σ0.get t = σ.get t) ∧ evOp tab soft Γ call k o σ0 (fun v σ => K (σ.put o.dst v)) = some r) ∨
    (Region.wanted o (yielded ops a.tmps) = false ∧ ∃ σ0, Rel G σ0 a w ∧ σ0.roots = σ.roots ∧ K (σ0.put o.dst (.tup .nil)) = some r) := by
  simp only [evOne] at h
  cases hg : o.guard with
  | none =>
    rw [hg] at h
    exact .inl ⟨by simp [Region.wanted, hg], σ, hR, rfl, fun t => rfl, h⟩
  | some jw =>
    obtain ⟨j, want⟩ := jw
    rw [hg] at h
    simp only at h
    cases hgu : guardOf ops.toList σ j with
    | none => rw [hgu] at h; cases h
    | some db =>
      obtain ⟨d, ob⟩ := db
      rw [hgu] at h
      have hdst : (ops[j]?).bind (·.dst) = some d ∧ (match ob with | some b => σ.get d = .val .bool b | none => σ.get d = .tup .nil) := by
        unfold guardOf at hgu
        split at hgu
        · rename_i og hog
          split at hgu
          · rename_i d' hd'
            split at hgu
            · rename_i b hb; cases hgu; exact ⟨by rw [show ops[j]? = some og by simpa using hog]; exact hd', hb⟩
            · rename_i hb; cases hgu; exact ⟨by rw [show ops[j]? = some og by simpa using hog]; exact hd', hb⟩
            · cases hgu
          · cases hgu
        · cases hgu
      obtain ⟨hdst, hval⟩ := hdst
      have htmp := hR.tmps d
      cases ob with
      | none =>
        rw [hval] at htmp
        obtain ⟨vs, e, hv⟩ := htmp
        have hv : vs = [] := hv
        subst hv
        have hw : Region.wanted o (yielded ops a.tmps) = false := by
          simp only [Region.wanted, hg, yielded, hdst, Option.bind_some]
          have : a.tmps[d]? = none ∨ a.tmps[d]? = some (.tuple #[]) := by
            cases hh : a.tmps[d]? with
            | none => exact .inl rfl
            | some y =>
              right
              have : a.tmps.getD d undef = y := by simp [hh]
              rw [← this, e]
          rcases this with e | e <;> rw [e] <;> rfl
        exact .inr ⟨hw, σ, hR, rfl, h⟩
      | some b =>
        rw [hval] at htmp
        have htmp : a.tmps.getD d undef = .bool b := htmp
        have hsome : a.tmps[d]? = some (.bool b) := by
          cases hh : a.tmps[d]? with
          | none =>
            have : a.tmps.getD d undef = undef := by simp [hh]
            rw [this] at htmp; cases htmp
          | some y =>
            have : a.tmps.getD d undef = y := by simp [hh]
            rw [← this, htmp]
        have hw : Region.wanted o (yielded ops a.tmps) = (b == want) := by
          simp only [Region.wanted, hg, yielded, hdst, Option.bind_some, hsome]
          cases b <;> cases want <;> rfl
        have hR1 : Rel G (σ.put (some d) (.val .bool b)) a w := by
          have := hR.put (v := .val .bool b) (x := .bool b) rfl (some d)
          rw [← htmp, put_same] at this; exact this
        have hget : ∀ t, (σ.put (some d) (.val .bool b)).get t = σ.get t := fun t => by
          by_cases e : d = t
          · subst e
            simp only [St.put, St.get]
            have hval' : σ.tmps.getD d .undef = .val .bool b := hval
            by_cases hl : d < σ.tmps.length
            · rw [getD_set_eq hl, hval']
            · rw [List.set_eq_of_length_le (by omega)]
          · simp only [St.put, St.get]; rw [getD_set_ne e]
        rw [hw]
        rcases br_some h with ⟨e, h⟩ | ⟨e, h⟩
        · subst e
          cases want with
          | true => exact .inl ⟨rfl, _, hR1, rfl, hget, h⟩
          | false => exact .inr ⟨rfl, _, hR1, rfl, h⟩
        · subst e
          cases want with
          | true => exact .inr ⟨rfl, _, hR1, rfl, h⟩
          | false => exact .inl ⟨rfl, _, hR1, rfl, hget, h⟩
/-- one operation, wanted or not -/
theorem evOne_sound (hO : OpsOk P tab soft Γ R call k) {ops : Array Oper} {i : Nat} {o : Oper} (ho : ops[i]? = some o) {σ : St} {K : St → Option R} (h : evOne tab soft Γ call k ops.toList o σ K = some r) {G : Gh} {a : Act} {w : World} (hR : Rel G σ a w)
    {next : Act → World → Prop} (hn : ∀ σ' G' x w', K σ' = some r → Rel G' σ' (a.put o.dst x) w' → Evo G σ.roots w G' σ'.roots w' → next (a.put o.dst x) w') : wpOp P ops Q i next a w := by
  unfold wpOp
  rw [ho]
  simp only
  rcases evOne_cases h hR with ⟨hw, σ0, hR0, hro, _, h⟩ | ⟨hw, σ0, hR0, hro, h⟩
  · rw [if_pos hw]
    refine .inl (hO o σ0 _ r h G a w next Q hR0 (fun v R' G' x w' hv hR' hx hE _ => ?_))
    refine hn _ G' x w' hv ((hR0.evo hR' hE).put hx o.dst) ?_
    have : (St.put ⟨σ0.tmps, R'⟩ o.dst v).roots = R' := by cases o.dst <;> rfl
    rw [this, ← hro]; exact hE
  · rw [if_neg (by rw [hw]; simp)]
    refine hn _ G undef w h (hR0.put (v := .tup .nil) (x := undef) ⟨[], rfl, rfl⟩ o.dst) ?_
    have : (St.put σ0 o.dst (.tup .nil)).roots = σ.roots := by cases o.dst <;> exact hro
    rw [this]; exact Evo.refl _ _ _
def dstsOf (ops : Array Oper) (is : List Nat) : List Nat := is.filterMap fun i => (ops[i]?).bind (·.dst)
def opsAt (all : List Oper) : List Nat → List Oper
  | [] => []
  | i :: is => match all[i]? with | some o => o :: opsAt all is | none => opsAt all is
theorem evOps_sound (hO : OpsOk P tab soft Γ R call k) (ops : Array Oper) : ∀ (is : List Nat) (σ : St) (K : St → Option R), (∀ i ∈ is, i < ops.size) →
    evOps tab soft Γ call k ops.toList (opsAt ops.toList is) σ K = some r → ∀ (G : Gh) (a : Act) (w : World), Rel G σ a w →
    (∀ σ' G' a' w', K σ' = some r → Rel G' σ' a' w' → Evo G σ.roots w G' σ'.roots w' → Agree (dstsOf ops is) a a' → Q .normal a' w') → wpOps P ops Q is a w
  | [], σ, K, _, h, G, a, w, hR, hK => hK σ G a w h hR (Evo.refl _ _ _) (Agree.refl _ _)
  | i :: is, σ, K, hin, h, G, a, w, hR, hK => by
    have hi : i < ops.size := hin i (by simp)
    have ho : ops[i]? = some ops[i] := Array.getElem?_eq_getElem hi
    have hl : ops.toList[i]? = some ops[i] := by simp [hi]
    simp only [opsAt, hl] at h
    generalize ops[i] = o at ho h
    have hd : ∀ n, o.dst = some n → n ∈ dstsOf ops (i :: is) := fun n hn => by simp [dstsOf, ho, hn]
    have hsub : ∀ t ∈ dstsOf ops is, t ∈ dstsOf ops (i :: is) := fun t ht => by
      simp only [dstsOf, List.filterMap_cons] at ht ⊢
      split
      · exact ht
      · exact List.mem_cons_of_mem _ ht
    rw [wpOps_cons]
    refine evOne_sound hO ho h hR (fun σ' G' x w' hK1 hR1 hE1 => ?_)
    exact evOps_sound hO ops is σ' K (fun j hj => hin j (List.mem_cons_of_mem _ hj)) hK1 G' _ w' hR1 (fun σ'' G'' a'' w'' h1 h2 h3 h4 => hK σ'' G'' a'' w'' h1 h2 (hE1.trans h3) ((Agree.put hd).trans h4 (fun _ h => h) hsub))
def toX : Ex → Exit | .normal => .normal | .exit j => .exit j | .ret => .ret
/-- what a piece of code must come to -/
def Cont (G : Gh) (σ : St) (w : World) (a : Act) (D : List Nat) (K : Ex → St → Option R) (r : R) (Q : Exit → Act → World → Prop) : Prop :=
  ∀ e σ' G' a' w', K e σ' = some r → Rel G' σ' a' w' → Evo G σ.roots w G' σ'.roots w' → Agree D a a' → Q (toX e) a' w'
theorem opsAt_range (l : List Oper) : opsAt l (List.range l.length) = l := by
  have : ∀ (m l : List Oper), opsAt (m ++ l) (List.range' m.length l.length) = l := by
    intro m l
    induction l generalizing m with
    | nil => rfl
    | cons o os ih =>
      rw [List.length_cons, List.range'_succ]
      have := ih (m ++ [o])
      simp only [List.append_assoc, List.singleton_append, List.length_append, List.length_singleton] at this
      simp [opsAt, this]
  have := this [] l
  simpa [List.range_eq_range'] using this
theorem ev_sound (hO : OpsOk P tab soft Γ R call k) (hD : ∀ id ops, ∀ (σ : St) (K : St → Option R) (r : R), evDraw tab soft Γ call k ops.toList ops.toList.length (ops.toList.map fun _ => false) [] σ K = some r → ∀ (G : Gh) (a : Act) (w : World) (Q : Exit → Act → World → Prop),
      Rel G σ a w → (∀ σ' G' a' w', K σ' = some r → Rel G' σ' a' w' → Evo G σ.roots w G' σ'.roots w' → Agree (dsts (.region id ops true)) a a' → Q .normal a' w') → (Code.region id ops true).wp P Q a w) (H : List Hint) :
    ∀ (c : Code) (σ : St) (K : Ex → St → Option R) (r : R), ev tab soft Γ call H k c σ K = some r → ∀ (G : Gh) (a : Act) (w : World) (Q : Exit → Act → World → Prop),
      Rel G σ a w → Cont G σ w a (dsts c) K r Q → c.wp P Q a w
  | .skip, σ, K, r, h, G, a, w, Q, hR, hK => wp_skip (hK .normal σ G a w h hR (Evo.refl _ _ _) (Agree.refl _ _))
  | .exit j, σ, K, r, h, G, a, w, Q, hR, hK => wp_exit (hK (.exit j) σ G a w h hR (Evo.refl _ _ _) (Agree.refl _ _))
  | .ret, σ, K, r, h, G, a, w, Q, hR, hK => wp_ret (hK .ret σ G a w h hR (Evo.refl _ _ _) (Agree.refl _ _))
  | .region id ops false, σ, K, r, h, G, a, w, Q, hR, hK => by
    refine wp_region (evOps_sound (r := r) hO ops (List.range ops.size) σ (K .normal) (fun i hi => by simpa using hi) ?_ G a w hR (fun σ' G' a' w' h1 h2 h3 h4 => ?_))
    · have := opsAt_range ops.toList
      rw [Array.length_toList] at this
      rw [this]; exact h
    · refine hK .normal σ' G' a' w' h1 h2 h3 (h4.mono (fun t hm => ?_))
      simp only [dstsOf, List.mem_filterMap] at hm
      obtain ⟨i, _, hi⟩ := hm
      cases ho : ops[i]? with
      | none => rw [ho] at hi; cases hi
      | some o =>
        rw [ho] at hi
        exact List.mem_filterMap.2 ⟨o, by have := Array.mem_of_getElem? ho; simpa using this, hi⟩
  | .region id ops true, σ, K, r, h, G, a, w, Q, hR, hK => hD id ops σ (K .normal) r h G a w Q hR (fun σ' G' a' w' h1 h2 h3 h4 => hK .normal σ' G' a' w' h1 h2 h3 h4)
  | .cond c x y, σ, K, r, h, G, a, w, Q, hR, hK => by
    have hc := hR.eval c
    simp only [ev] at h
    split at h
    · rename_i t ht
      rw [ht] at hc
      have hc : a.eval c = .bool t := hc
      rcases br_some h with ⟨e, h⟩ | ⟨e, h⟩
      · subst e
        exact wp_cond_true hc (ev_sound hO hD H x σ K r h G a w Q hR (fun e σ' G' a' w' h1 h2 h3 h4 => hK e σ' G' a' w' h1 h2 h3 (h4.mono (fun t hm => List.mem_append_left _ hm))))
      · subst e
        exact wp_cond_false hc (ev_sound hO hD H y σ K r h G a w Q hR (fun e σ' G' a' w' h1 h2 h3 h4 => hK e σ' G' a' w' h1 h2 h3 (h4.mono (fun t hm => List.mem_append_right _ hm))))
    · cases h
  | .block id x, σ, K, r, h, G, a, w, Q, hR, hK => by
    simp only [ev] at h
    refine wp_block (ev_sound hO hD H x σ _ r h G a w _ hR (fun e σ' G' a' w' h1 h2 h3 h4 => ?_))
    cases e with
    | normal => exact hK .normal σ' G' a' w' h1 h2 h3 h4
    | ret => exact hK .ret σ' G' a' w' h1 h2 h3 h4
    | exit j =>
      show Exit.inBlock id Q (.exit j) a' w'
      simp only [Exit.inBlock]
      simp only [inBlk] at h1
      cases e : Nat.beq j id with
      | true =>
        rw [e] at h1
        rw [if_pos (beq_nat e)]
        exact hK .normal σ' G' a' w' h1 h2 h3 h4
      | false =>
        rw [e] at h1
        rw [if_neg (fun e' => by subst e'; rw [Nat.beq_refl] at e; cases e)]
        exact hK (.exit j) σ' G' a' w' h1 h2 h3 h4
  | .seq x y, σ, K, r, h, G, a, w, Q, hR, hK => by
    simp only [ev] at h
    split at h
    · refine wp_seq (ev_sound hO hD H x σ _ r h G a w _ hR (fun e σ' G' a' w' h1 h2 h3 h4 => ?_))
      cases e with
      | normal =>
        refine ev_sound hO hD H y σ' K r h1 G' a' w' Q h2 (fun e σ'' G'' a'' w'' k1 k2 k3 k4 => hK e σ'' G'' a'' w'' k1 k2 (h3.trans k3) (h4.trans k4 (fun t ht => List.mem_append_left _ ht) (fun t ht => List.mem_append_right _ ht)))
      | ret => exact hK .ret σ' G' a' w' h1 h2 h3 (h4.mono (fun t hm => List.mem_append_left _ hm))
      | exit j => exact hK (.exit j) σ' G' a' w' h1 h2 h3 (h4.mono (fun t hm => List.mem_append_left _ hm))
    · rename_i hh _
      have h : ev tab soft Γ call H k x σ (andThen (fun σ' => bnd (enc (baseOf σ hh (dsts x)) σ' (deadOf σ hh) hh.items (itTys hh.items)) (fun c => ev tab soft Γ call H k y (dec (baseOf σ hh (dsts x)) hh.items (itTys hh.items) c) K)) K) = some r := h
      refine wp_seq (ev_sound hO hD H x σ _ r h G a w _ hR (fun e σ' G' a' w' h1 h2 h3 h4 => ?_))
      cases e with
      | normal =>
        obtain ⟨c, hc, h1⟩ := bnd_some h1
        · obtain ⟨G2, r1, r2⟩ := meet_spec hR h3 h2 h4 hc
          refine ev_sound hO hD H y _ K r h1 G2 a' w' Q r1 (fun e σ'' G'' a'' w'' k1 k2 k3 k4 => hK e σ'' G'' a'' w'' k1 k2 (r2.trans k3) (h4.trans k4 (fun t ht => List.mem_append_left _ ht) (fun t ht => List.mem_append_right _ ht)))
      | ret => exact hK .ret σ' G' a' w' h1 h2 h3 (h4.mono (fun t hm => List.mem_append_left _ hm))
      | exit j => exact hK (.exit j) σ' G' a' w' h1 h2 h3 (h4.mono (fun t hm => List.mem_append_left _ hm))
  | .loop x, σ, K, r, h, G, a, w, Q, hR, hK => by
    simp only [ev] at h
    split at h
    · rename_i hh _
      obtain ⟨c0, hc0, h⟩ := bnd_some h
      obtain ⟨G2, r1, r2⟩ := meet_spec hR (Evo.refl _ _ _) hR (Agree.refl (dsts x) a) hc0
      refine wp_loop_ghost (fun n a' w' => ∃ c G', loopN (fun rec c => ev tab soft Γ call H k x (dec (baseOf σ hh (dsts x)) hh.items (itTys hh.items) c) (andThen (fun σ' => bnd (enc (baseOf σ hh (dsts x)) σ' (deadOf σ hh) hh.items (itTys hh.items)) rec) K)) n c = some r ∧
        Rel G' (dec (baseOf σ hh (dsts x)) hh.items (itTys hh.items) c) a' w' ∧ Evo G σ.roots w G' (dec (baseOf σ hh (dsts x)) hh.items (itTys hh.items) c).roots w' ∧ Agree (dsts x) a a') k ⟨c0, G2, h, r1, r2, Agree.refl _ _⟩ ?_
      rintro n a1 w1 ⟨c, G1, hn, hR1, hE1, hA1⟩
      cases n with
      | zero => cases hn
      | succ n =>
        simp only [loopN] at hn
        refine ev_sound hO hD H x _ _ r hn G1 a1 w1 _ hR1 (fun e σ' G' a' w' h1 h2 h3 h4 => ?_)
        have hA : Agree (dsts x) a a' := hA1.trans h4 (fun _ h => h) (fun _ h => h)
        cases e with
        | normal =>
          obtain ⟨c', hc', h1⟩ := bnd_some h1
          obtain ⟨G3, s1, s2⟩ := meet_spec hR (hE1.trans h3) h2 hA hc'
          exact ⟨n, Nat.lt_succ_self _, c', G3, h1, s1, s2, hA⟩
        | ret => exact hK .ret σ' G' a' w' h1 h2 (hE1.trans h3) hA
        | exit j => exact hK (.exit j) σ' G' a' w' h1 h2 (hE1.trans h3) hA
    · cases h
  | .rangeFunc _ _ _ _, _, _, _, h, _, _, _, _, _, _ => by simp [ev] at h
  | .scope _, _, _, _, h, _, _, _, _, _, _ => by simp [ev] at h
  | .label _, _, _, _, h, _, _, _, _, _, _ => by simp [ev] at h
  | .goto _, _, _, _, h, _, _, _, _, _, _ => by simp [ev] at h
  | .refuse _, _, _, _, h, _, _, _, _, _, _ => by simp [ev] at h
end
end Go.Proofs.YtpihkhknehadbaaGreat.Eng
