/- New rows; appends. No condition. -/
import Derived.Test.YtpihkhknehadbaaGreatEngWr
namespace Go.Proofs.YtpihkhknehadbaaGreat.Eng
open Go.RowKit
set_option linter.unusedVariables false
section
variable {P : Program}
section
variable {R : Type} {G : Gh} {σ : St} {a : Act} {w : World} {K : AV → St → Option R} {r : R} {next : Act → World → Prop} {Q : Exit → Act → World → Prop} {o : Oper} {tab : List (Nat × TI)}
variable {soft : Bool} {Γ : List (Nat × Ent)} {call : Nat → List AV → St → (AV → St → Option R) → Option R} {k : Nat} {qt : Bool}
/-! ### What an append takes -/
/-- what is known of a cell that holds no slice -/
def anyV (u : Nat → Nat → Option Value) : Nat → (t : Ty) → t.den → Value → Prop := fun _ t x v => t.isSl = false → (ro u t).1 x v
theorem cv_any {w : World} {G : Gh} {r : Nat} (own : Bool) (k : Nat) (t : Ty) (x : t.den) (v : Value) (h : cvOf G w r own k t x v) : anyV (vw G w) k t x v := by
  intro hs
  cases own with
  | false => exact h
  | true => cases t <;> first | exact h | cases hs
theorem any_cv {w : World} {G : Gh} {r : Nat} (own : Bool) (k : Nat) (t : Ty) (x : t.den) (v : Value) (hs : t.isSl = false) (h : anyV (vw G w) k t x v) : cvOf G w r own k t x v := by
  have := h hs
  cases own with
  | false => exact this
  | true => cases t <;> first | exact this | cases hs
theorem elG_noSl {c : Nat → Nat → Option Value} {cv cv' : Nat → (t : Ty) → t.den → Value → Prop} (h : ∀ k k' t x v, t.isSl = false → cv k t x v → cv' k' t x v) : ∀ (ts : Ty) (x : ts.den) (b o k k' : Nat), ts.hasSl = false → elG c cv ts x b o k → elG c cv' ts x b o k' := by
  intro ts
  induction ts with
  | cons t ts _ ih =>
    intro x b o k k' hs ⟨⟨v, e, g⟩, hk⟩
    simp only [Ty.hasSl, Bool.or_eq_false_iff] at hs
    exact ⟨⟨v, e, h _ _ _ _ _ hs.1 g⟩, ih _ _ _ _ _ hs.2 hk⟩
  | _ => intro x b o k k' _ _; exact trivial
/-- a slice's elements -/
def Elems (w : World) (cv : Nat → (t : Ty) → t.den → Value → Prop) (ts : Ty) (m : List ts.den) (base : Nat) (v : Value) : Prop :=
  ∃ a c, v = .slice a (List.length m) c ∧ ∀ i, i < List.length m → ∃ b p, a = some ⟨b, p, none⟩ ∧ elG (at_ w) cv ts (rd ts m i) b (p + i * ts.size) (base + i * ts.size)
theorem Elems.mono {cv cv' : Nat → (t : Ty) → t.den → Value → Prop} {ts : Ty} {m : List ts.den} {base base' : Nat} {v : Value} (h : Elems w cv ts m base v) (hcv : ∀ i, i < List.length m → ∀ j, j < ts.size → ∀ t x v, cv (base + i * ts.size + j) t x v → cv' (base' + i * ts.size + j) t x v) : Elems w cv' ts m base' v := by
  obtain ⟨a, c, e, h⟩ := h
  refine ⟨a, c, e, fun i hi => ?_⟩
  obtain ⟨b, p, ea, g⟩ := h i hi
  exact ⟨b, p, ea, elG_move ts _ b _ _ b _ _ (fun _ _ _ e => e) (hcv i hi) g⟩
theorem elems_ro {ts : Ty} {m : List ts.den} {v : Value} (h : (ro (vw G w) (.slice ts)).1 m v) : Elems w (flatV (vw G w)) ts m 0 v := by
  obtain ⟨a, c, e, _, g⟩ := h
  refine ⟨a, c, e, fun i hi => ?_⟩
  obtain ⟨b, p, ea, k⟩ := g i hi
  exact ⟨b, p, ea, elG_mono ts _ b _ _ (fun j v _ e => at_u e) (fun _ _ _ _ g => g) ((elG_ro ts _ b _ _).1 k)⟩
theorem elems_row {cv : Nat → (t : Ty) → t.den → Value → Prop} {L : Lab} {ts : Ty} {m : List ts.den} {a0 : Option Addr} {n : Nat} (h : rowG G w cv L ts m a0 n) : Elems w cv ts m 0 (.slice a0 (List.length m) n) := by
  refine ⟨a0, n, rfl, fun i hi => ?_⟩
  obtain ⟨b, p, ea, _, g⟩ := row_elem h hi
  exact ⟨b, p, ea, by rw [Nat.zero_add]; exact g⟩
theorem elems_tk {cv : Nat → (t : Ty) → t.den → Value → Prop} {ts : Ty} {m : List ts.den} {a0 : Option Addr} {c n : Nat} (h : Elems w cv ts m 0 (.slice a0 (List.length m) c)) (hn : n ≤ List.length m) : Elems w cv ts (tk m n) 0 (.slice a0 n c) := by
  obtain ⟨a, c', e, g⟩ := h
  cases e
  refine ⟨a0, c, by rw [len_tk hn], fun i hi => ?_⟩
  rw [len_tk hn] at hi
  rw [rd_tk hi]; exact g i (by omega)
theorem elems_dp {cv : Nat → (t : Ty) → t.den → Value → Prop} {ts : Ty} {m : List ts.den} {a0 : Option Addr} {c n : Nat} (h : Elems w cv ts m 0 (.slice a0 (List.length m) c)) (hn : n ≤ List.length m) (hc : List.length m ≤ c) :
    Elems w cv ts (dp m n) (n * ts.size) (.slice (if c = n then a0 else a0.map (·.add (n * ts.size))) (List.length m - n) (c - n)) := by
  obtain ⟨a, c', e, g⟩ := h
  cases e
  refine ⟨_, _, by rw [len_dp], fun i hi => ?_⟩
  rw [len_dp] at hi
  obtain ⟨b, p, ea, k⟩ := g (n + i) (by omega)
  refine ⟨b, p + n * ts.size, by rw [if_neg (by omega), ea]; simp [add_at], ?_⟩
  rw [rd_dp, show p + n * ts.size + i * ts.size = p + (n + i) * ts.size by rw [Nat.add_mul]; omega, ← Nat.add_mul]
  simpa using k
/-- whatever is read as a slice of cells without slices -/
theorem sliceOf_elems {Rs : List Root} {tm : List AV} (hR : RelR G Rs w) {av : AV} {ts : Ty} {m : List ts.den} {v : Value} (hs : sliceOf ⟨tm, Rs⟩ av = some ⟨ts, m⟩) (hv : (avR G Rs w av).1 v) : ∃ base, Elems w (anyV (vw G w)) ts m base v := by
  have any : ∀ {own : Bool} {r : Nat} {ts : Ty} {m : List ts.den} {base : Nat} {v : Value}, Elems w (cvOf G w r own) ts m base v → Elems w (anyV (vw G w)) ts m base v := fun h => h.mono (fun _ _ _ _ t x v g => cv_any _ _ t x v g)
  have ofRo : ∀ {ts : Ty} {m : List ts.den} {v : Value}, (ro (vw G w) (.slice ts)).1 m v → Elems w (anyV (vw G w)) ts m 0 v := fun h => any (own := false) (r := 0) (elems_ro h)
  cases av with
  | val t x =>
    cases t with
    | slice us => cases hs; exact ⟨0, ofRo hv⟩
    | _ => cases hs
  | nl us => cases hs; obtain ⟨a, e⟩ := hv; exact ⟨0, a, 0, e, fun i hi => absurd hi (by simp)⟩
  | sl r a =>
    obtain ⟨q, hq, hle, g⟩ := hv
    simp only [sliceOf, hq] at hs
    obtain ⟨k, ver, anc⟩ := q
    have hro := hR r _ hq
    cases k with
    | row ow us n =>
      simp only at hs
      split at hs
      · rename_i hab
        cases hs
        have ev := g (beq_nat hab).symm ts (List.length m) rfl
        rw [ev]
        exact ⟨0, any (elems_row (show rowG G w (cvOf G w r ow) (.of r 0) ts m _ _ from hro))⟩
      · cases hs
    | fro us n =>
      simp only at hs
      split at hs
      · rename_i hab
        cases hs
        have ev := g (beq_nat hab).symm ts (List.length m) rfl
        rw [ev]
        exact ⟨0, ofRo hro⟩
      · cases hs
    | _ => cases hs
  | hd r a n =>
    obtain ⟨q, hq, hle, g⟩ := hv
    simp only [sliceOf, hq] at hs
    obtain ⟨k, ver, anc⟩ := q
    have hro := hR r _ hq
    cases k with
    | row ow us mm =>
      simp only at hs
      split at hs
      · rename_i hab
        cases hs
        obtain ⟨h1, ev⟩ := g (beq_nat hab).symm _ (List.length mm) rfl
        rw [ev]
        exact ⟨0, any (elems_tk (elems_row (show rowG G w (cvOf G w r ow) (.of r 0) _ mm _ _ from hro)) h1)⟩
      · cases hs
    | fro us mm =>
      simp only at hs
      split at hs
      · rename_i hab
        cases hs
        obtain ⟨h1, ev⟩ := g (beq_nat hab).symm _ (List.length mm) rfl
        rw [ev]
        exact ⟨0, elems_tk (ofRo hro) h1⟩
      · cases hs
    | _ => cases hs
  | tl r a n =>
    obtain ⟨q, hq, hle, g⟩ := hv
    simp only [sliceOf, hq] at hs
    obtain ⟨k, ver, anc⟩ := q
    have hro := hR r _ hq
    cases k with
    | row ow us mm =>
      simp only at hs
      split at hs
      · rename_i hab
        cases hs
        obtain ⟨h1, ev⟩ := g (beq_nat hab).symm _ (List.length mm) rfl
        rw [ev]
        have hrow := (show rowG G w (cvOf G w r ow) (.of r 0) _ mm _ _ from hro)
        exact ⟨_, any (elems_dp (elems_row hrow) h1 hrow.1)⟩
      · cases hs
    | fro us mm =>
      simp only at hs
      split at hs
      · rename_i hab
        cases hs
        obtain ⟨h1, ev⟩ := g (beq_nat hab).symm _ (List.length mm) rfl
        rw [ev]
        have hc : List.length mm ≤ (G.anch r).2 := by obtain ⟨a0, c0, e0, h0, _⟩ := hro; cases e0; exact h0
        exact ⟨_, elems_dp (ofRo hro) h1 hc⟩
      · cases hs
    | _ => cases hs
  | il r s i f =>
    have hil := hv
    obtain ⟨q, hq, hle, g⟩ := hv
    simp only [sliceOf, hq] at hs
    obtain ⟨k, ver, anc⟩ := q
    cases k with
    | row ow us n =>
      cases ow with
      | false => cases hs
      | true =>
        simp only at hs
        split at hs
        · rename_i hab
          obtain ⟨_, _, a1, n1, e1, e2⟩ := il_spec hR hq (beq_nat hab).symm hs hil
          rw [e1]
          exact ⟨0, any (own := false) (r := 0) (elems_row e2)⟩
        · cases hs
    | _ => cases hs
  | pd r s i f us n =>
    obtain ⟨q, hq, hle, g⟩ := hv
    simp only [sliceOf, hq] at hs
    obtain ⟨k, ver, anc⟩ := q
    cases k with
    | row ow vs n' =>
      cases ow with
      | false => cases hs
      | true =>
        simp only at hs
        split at hs
        · rename_i hab
          cases hs
          obtain ⟨_, _, a1, n1, e1, e2⟩ := g (beq_nat hab).symm true vs n' rfl
          rw [e1]
          exact ⟨0, any (own := false) (r := 0) (elems_row e2)⟩
        · cases hs
    | _ => cases hs
  | _ => cases hs
/-- the turn of labels where a row's elements go into another row -/
def tauA (own : Bool) (r2 r0 base : Nat) : Nat → Nat → Lab := fun s k => if s = r2 then (match own with | true => (match k with | 0 => .of r2 0 | k + 1 => .of r0 (base + k + 1)) | false => .free) else .of s k
theorem relab_id (G : Gh) : relab G (fun r s => Lab.of r s) = G := by
  have : (relab G (fun r s => Lab.of r s)).own = G.own := by
    funext b o
    simp only [relab]
    cases G.own b o <;> rfl
  cases G
  simp only [relab] at this ⊢
  rw [this]
theorem srcOf_spec (hR : RelR G σ.roots w) {own : Bool} {ts : Ty} {av : AV} {m : List ts.den} {rs : List Nat} {v : Value} (h : srcOf σ own ts av = some (m, rs)) (hv : (avR G σ.roots w av).1 v) (r0 base : Nat) :
    ∃ τ : Nat → Nat → Lab, (∀ s, s ∉ rs → ∀ k, τ s k = .of s k) ∧ RelR (relab G τ) (eat own σ rs).roots w ∧ Evo G σ.roots w (relab G τ) (eat own σ rs).roots w ∧ Elems w (cvOf (relab G τ) w r0 own) ts m base v := by
  have plain : ∀ (m' : List ts.den), rs = [] → m' = m → Elems w (cvOf G w r0 own) ts m' base v → ∃ τ : Nat → Nat → Lab, (∀ s, s ∉ rs → ∀ k, τ s k = .of s k) ∧ RelR (relab G τ) (eat own σ rs).roots w ∧ Evo G σ.roots w (relab G τ) (eat own σ rs).roots w ∧ Elems w (cvOf (relab G τ) w r0 own) ts m base v := by
    intro m' hrs hm hE
    subst hrs; subst hm
    refine ⟨fun r s => .of r s, fun _ _ _ => rfl, ?_, ?_, ?_⟩ <;> rw [relab_id]
    · exact hR
    · exact Evo.refl _ _ _
    · exact hE
  have nil : ∀ (a0 : Option Addr), v = .slice a0 0 0 → (m = []) → rs = [] → ∃ τ : Nat → Nat → Lab, (∀ s, s ∉ rs → ∀ k, τ s k = .of s k) ∧ RelR (relab G τ) (eat own σ rs).roots w ∧ Evo G σ.roots w (relab G τ) (eat own σ rs).roots w ∧ Elems w (cvOf (relab G τ) w r0 own) ts m base v := by
    intro a0 e hm hrs
    exact plain [] hrs hm.symm ⟨a0, 0, by rw [e]; rfl, fun i hi => absurd hi (by simp)⟩
  unfold srcOf at h
  split at h
  · rename_i hsl
    split at h
    · rename_i l hl
      split at h
      · rename_i m' hm'
        cases h
        obtain ⟨ts', l⟩ := l
        obtain ⟨e, g⟩ := cast_sl hm'
        cases e
        have g : m = l := g
        have hl : sliceOf σ av = some ⟨_, m⟩ := by rw [hl, g]
        obtain ⟨base', a1, c1, e1, h1⟩ := sliceOf_elems (tm := σ.tmps) hR hl hv
        refine plain m rfl rfl ⟨a1, c1, e1, fun i hi => ?_⟩
        obtain ⟨b, p, ea, k'⟩ := h1 i hi
        exact ⟨b, p, ea, elG_noSl (fun k k' t x v hs g => any_cv own k' t x v hs g) _ _ b _ _ _ hsl k'⟩
      · cases h
    · cases h
  · rename_i hsl
    split at h
    · rename_i us
      split at h
      · rename_i m' hm'
        cases h
        obtain ⟨e, g⟩ := cast_sl hm'
        cases e
        obtain ⟨a0, e0⟩ := hv
        exact nil a0 e0 g rfl
      · cases h
    · rename_i us l
      split at h
      · cases h
      · split at h
        · rename_i m' hm'
          cases h
          obtain ⟨e, g⟩ := cast_sl hm'
          cases e
          have g : m = l := g
          subst g
          exact plain m rfl rfl ((elems_ro hv).mono (fun _ _ _ _ t x v g => g))
        · cases h
    · rename_i r2 a2
      obtain ⟨q, hq, hle, g⟩ := hv
      simp only [hq] at h
      obtain ⟨kk, ver, anc⟩ := q
      have hro := hR r2 _ hq
      cases kk with
      | row o us l =>
        simp only at h
        split at h
        · rename_i m' hb hm'
          cases h
          obtain ⟨hb1, hb2⟩ := and2 hb
          obtain ⟨e, g'⟩ := cast_sl hm'
          cases e
          have g' : m = l := g'
          subst g'
          have ev := g (beq_nat hb1).symm ts (List.length m) rfl
          have hrow : rowG G w (cvOf G w r2 o) (.of r2 0) ts m _ _ := hro
          have hτ : ∀ s, s ∉ [r2] → ∀ k, tauA own r2 r0 base s k = .of s k := fun s hs k => by
            have : s ≠ r2 := by simpa using hs
            simp [tauA, this]
          obtain ⟨g1, g2⟩ := eat_spec (own := own) (rs := [r2]) (τ := tauA own r2 r0 base) hR (fun s hs q hq' => by
            have : s = r2 := by simpa using hs
            subst this
            rw [hq] at hq'; cases hq'; rfl) hτ (fun e s hs k => by
            have : s = r2 := by simpa using hs
            subst this; subst e; simp [tauA])
          refine ⟨_, hτ, g1, g2, ?_⟩
          cases own with
          | true =>
            have : o = true := by simpa using hb2
            subst this
            rw [ev]
            refine (elems_row hrow).mono (fun i hi j hj t x v g => ?_)
            refine cvOf_keep true (vw_evo g2) (fun _ => ?_) t x v g
            have := lk_relab (G := G) (w := w) (tauA true r2 r0 base) r2 (0 + i * ts.size + j + 1)
            simp only [tauA, if_true] at this
            rwa [show base + (0 + i * ts.size + j) + 1 = base + i * ts.size + j + 1 by omega] at this
          | false =>
            have hf := ro_of_row (G' := relab G (tauA false r2 r0 base)) g2.free (fun s => by
              have := lk_relab (G := G) (w := w) (tauA false r2 r0 base) r2 s
              simpa [tauA] using this) hrow
            rw [← ev] at hf
            exact (elems_ro hf).mono (fun _ _ _ _ t x v g => g)
        · cases h
      | fro us l =>
        simp only at h
        split at h
        · rename_i m' hb hm'
          cases h
          obtain ⟨hb1, hb2⟩ := and2 hb
          obtain ⟨e, g'⟩ := cast_sl hm'
          cases e
          have g' : m = l := g'
          subst g'
          have ev := g (beq_nat hb1).symm ts (List.length m) rfl
          have : own = false := by simpa using hb2
          subst this
          have hro' : (ro (vw G w) (.slice ts)).1 m v := by rw [ev]; exact hro
          exact plain m rfl rfl ((elems_ro hro').mono (fun _ _ _ _ t x v g => g))
        · cases h
      | _ => cases h
    · cases h
/-- the cells of a list's elements, one behind the other -/
theorem cv_one {w : World} {G : Gh} {r : Nat} (own : Bool) (k : Nat) (t : Ty) (x : t.den) (v : Value) (h : cvOf G w r own k t x v) : v.oneCell' = true := by
  cases own with
  | false => exact ro_one h
  | true =>
    cases t with
    | slice us => obtain ⟨a, n, e, _⟩ := h; subst e; rfl
    | bool => cases h; rfl
    | int k => cases h; rfl
    | str => cases h; rfl
    | nil => exact h.elim
    | cons _ _ => exact h.elim
theorem elG_some {c : Nat → Nat → Option Value} {cv : Nat → (t : Ty) → t.den → Value → Prop} (h1 : ∀ k t x v, cv k t x v → v.oneCell' = true) : ∀ (ts : Ty) (x : ts.den) (b o k : Nat), elG c cv ts x b o k → ∀ j, j < ts.size → ∃ v, c b (o + j) = some v ∧ v.oneCell' = true := by
  intro ts
  induction ts with
  | cons t ts _ ih =>
    intro x b o k ⟨⟨v, e, g⟩, hk⟩ j hj
    cases j with
    | zero => exact ⟨v, e, h1 _ _ _ _ g⟩
    | succ j =>
      obtain ⟨v, e, g⟩ := ih x.2 b (o + 1) (k + 1) hk j (by simpa [Ty.size] using hj)
      exact ⟨v, by rw [show o + (j + 1) = o + 1 + j by omega]; exact e, g⟩
  | _ => intro x b o k _ j hj; simp [Ty.size] at hj
/-- what an append takes -/
theorem src_of {cv : Nat → (t : Ty) → t.den → Value → Prop} (h1 : ∀ k t x v, cv k t x v → v.oneCell' = true) {ts : Ty} {l : List ts.den} {T e base : Nat} (hu : P.underlying T = some (.slice e)) {v : Value} (h : Elems w cv ts l base v) :
    ∃ (a0 : Option Addr) (c : Nat) (news : List Value), v = .slice a0 (List.length l) c ∧ Src P ts.size T v (List.length l) news w ∧
      (∀ (c' : Nat → Nat → Option Value) (b' p' : Nat), (∀ j, j < news.length → c' b' (p' + j) = some (news.getD j undef)) → ∀ i, i < List.length l → elG c' cv ts (rd ts l i) b' (p' + i * ts.size) (base + i * ts.size)) := by
  obtain ⟨a0, c, ev, h⟩ := h
  subst ev
  rcases Nat.eq_zero_or_pos (List.length l) with h0 | h0
  · refine ⟨a0, c, [], rfl, ?_, fun _ _ _ _ i hi => absurd hi (by omega)⟩
    rw [h0]
    cases a0 with
    | none => exact Src.ofNil w hu c
    | some ad => exact Src.ofSlice w hu ad 0 c [] (by simp) (by simp) (by simp)
  · obtain ⟨b, p, ea, _⟩ := h 0 h0
    subst ea
    have h' : ∀ i, i < List.length l → elG (at_ w) cv ts (rd ts l i) b (p + i * ts.size) (base + i * ts.size) := by
      intro i hi
      obtain ⟨b1, p1, e1, g⟩ := h i hi
      cases e1; exact g
    have key : ∀ j, j < List.length l * ts.size → ∃ v, at_ w b (p + j) = some v ∧ v.oneCell' = true := by
      intro j hj
      have hpos : 0 < ts.size := by
        rcases Nat.eq_zero_or_pos ts.size with e | e
        · rw [e] at hj; omega
        · exact e
      have hi : j / ts.size < List.length l := by
        rw [Nat.div_lt_iff_lt_mul hpos]; exact hj
      obtain ⟨v, e, g⟩ := elG_some h1 ts _ b _ _ (h' (j / ts.size) hi) (j % ts.size) (Nat.mod_lt _ hpos)
      have := Nat.div_add_mod j ts.size
      rw [Nat.mul_comm] at this
      exact ⟨v, by rw [show p + j = p + j / ts.size * ts.size + j % ts.size by omega]; exact e, g⟩
    obtain ⟨news, hl, hc, hone⟩ : ∃ news : List Value, news.length = List.length l * ts.size ∧ (∀ j, j < news.length → at_ w b (p + j) = some (news.getD j undef)) ∧ (∀ v ∈ news, v.oneCell' = true) := by
      refine ⟨(List.range (List.length l * ts.size)).map fun j => (at_ w b (p + j)).getD undef, by simp, fun j hj => ?_, fun v hv => ?_⟩
      · simp only [List.length_map, List.length_range] at hj
        obtain ⟨v, e, _⟩ := key j hj
        simp [List.getD_eq_getElem?_getD, hj, e]
      · obtain ⟨j, hj, e⟩ := List.mem_map.1 hv
        obtain ⟨v', e', g⟩ := key j (by simpa using hj)
        rw [e'] at e
        simp at e; subst e; exact g
    refine ⟨_, c, news, rfl, Src.ofSlice w hu ⟨b, p, none⟩ (List.length l) c news hl (fun j v hv => ?_) hone, fun c' b' p' hc' i hi => ?_⟩
    · rw [add_at]
      have hj : j < news.length := (List.getElem?_eq_some_iff.1 hv).1
      have := hc j hj
      rw [List.getD_eq_getElem?_getD, hv] at this; exact this
    · refine elG_move ts _ b _ _ b' _ _ (fun j v hj e => ?_) (fun _ _ _ _ _ g => g) (h' i hi)
      have hlt : i * ts.size + j < news.length := by
        have := lt_row hi (Nat.le_refl _) hj
        omega
      rw [show p' + i * ts.size + j = p' + (i * ts.size + j) by omega, hc' _ hlt, ← hc _ hlt, show p + (i * ts.size + j) = p + i * ts.size + j by omega]; exact e
theorem fitL_spec {α : Type} {l m : List α} (h : fitL l m = true) : List.length l + List.length m < 68719476736 := by
  unfold fitL at h
  simp only [Bool.not_eq_true', Bool.eq_false_iff, ne_eq, Nat.ble_eq] at h
  omega
theorem growBy_le (n : Nat) : ∀ (k c : Nat), c ≤ 2 * n + 768 → Builtin.growBy n k c ≤ 4 * n + 4000
  | 0, c, h => by simp only [Builtin.growBy]; omega
  | k + 1, c, h => by
    simp only [Builtin.growBy]
    split
    · omega
    · exact growBy_le n k _ (by omega)
theorem nextcap_le {n c : Nat} (h : c < n) : Builtin.nextslicecap n c ≤ 4 * n + 4000 := by
  unfold Builtin.nextslicecap
  split
  · omega
  · split
    · omega
    · exact growBy_le n 4 c (by omega)
theorem rd_appL {ts : Ty} {l m : List ts.den} {i : Nat} (hi : i < List.length l) : rd ts (app l m) i = rd ts l i := by simp [rd, app, List.getD_eq_getElem?_getD, List.getElem?_append_left hi]
theorem rd_appR {ts : Ty} {l m : List ts.den} {i : Nat} (hi : List.length l ≤ i) : rd ts (app l m) i = rd ts m (i - List.length l) := by simp [rd, app, List.getD_eq_getElem?_getD, List.getElem?_append_right hi]
/-- An append onto an own row: the row behind it. -/
theorem append_row {T T' : Nat} {us us' : Bool × Ty} {xs xx : Operand} {Ts : Array TypeId} (hT : TabOk P tab) (ho : o.op = .call ⟨.builtin .append, #[xs, xx], Ts⟩) (hTs : Ts = #[T, T']) (he : elemTs tab T = some us) (he' : elemTs tab T' = some us')
    {cv : Nat → (t : Ty) → t.den → Value → Prop} (h1 : ∀ k t x v, cv k t x v → v.oneCell' = true) {L : Lab} {ts : Ty} {l m : List ts.den} {a0 : Option Addr} {c : Nat} (hsz : us.2.size = ts.size) (hrow : rowG G w cv L ts l a0 c) (hs : a.eval xs = .slice a0 (List.length l) c)
    (hx : Elems w cv ts m (List.length l * ts.size) (a.eval xx)) (hfit : fitL l m = true) (hL : ∃ r s, L = .of r s) :
    ∃ w' a' c' G', (execOp a.eval o).run P w = .ok (.value (.slice a' (List.length l + List.length m) c')) w' ∧ G'.anch = G.anch ∧ w'.os = w.os ∧ w'.tape = w.tape ∧ w'.output = w.output ∧ w.heap.size ≤ w'.heap.size ∧ (∀ L', L' ≠ L → Lk G w G' w' L' L') ∧
      (∀ cv', (∀ k t x v, cv k t x v → cv' k t x v) → rowG G' w' cv' L ts (app l m) a' c' ∧ rowG G' w' cv' L ts l a0 c) := by
  have front : ∀ {G' : Gh} {w' : World} {cv' : Nat → (t : Ty) → t.den → Value → Prop} {a' : Option Addr} {c' : Nat}, rowG G' w' cv' L ts (app l m) a' c' → rowG G' w' cv' L ts l a' c' := by
    intro G' w' cv' a' c' h
    have := rowG_take h (m := List.length l) (by simp [app])
    rwa [show tk (app l m) (List.length l) = l by simp [tk, app]] at this
  obtain ⟨e, j, hu, hj, hjc, _⟩ := elemTs_spec hT he
  obtain ⟨e', j', hu', _⟩ := elemTs_spec hT he'
  have hfit := fitL_spec hfit
  obtain ⟨I, i1, i2, i3⟩ := (hT e j hj).info
  obtain ⟨I', z, z1, z2, z3⟩ := (hT e j hj).zero
  rw [i1] at z1; cases z1
  rw [hjc] at i2 z3
  have hsize : I.size = ts.size := i2.trans hsz
  obtain ⟨r1, r2⟩ := hrow
  obtain ⟨ao, co, olds, eo, hso, hoc⟩ := src_of (P := P) (v := a.eval xs) h1 hu (base := 0) (by rw [hs]; exact elems_row ⟨r1, r2⟩)
  obtain ⟨ax, cx, news, ex, hsn, hnc⟩ := src_of (P := P) (v := a.eval xx) h1 hu' hx
  rw [← hsize] at hso hsn
  have hlen : List.length (app l m) = List.length l + List.length m := by simp [app]
  have hnl : news.length = List.length m * ts.size := by rw [← hsize]; exact hsn.newsLen
  have hol : olds.length = List.length l * ts.size := by rw [← hsize]; exact hso.newsLen
  have hrunOf : ∀ (v : Value) (w' : World), (Builtin.append_ #[T, T'] o.type #[a.eval xs, a.eval xx]).run P w = .ok v w' → (execOp a.eval o).run P w = .ok (.value v) w' := by
    intro v w' hh
    simp [execOp, ho, hTs, resolve, invoke, builtin, hh]
  by_cases hroom : List.length l + List.length m ≤ c
  · rcases r2 with h0 | ⟨b, p, ea, hc0, hel⟩
    · -- no room is needed
      subst h0
      have hl0 : List.length l = 0 := by omega
      have hm0 : List.length m = 0 := by omega
      have hnews : news = [] := List.eq_nil_of_length_eq_zero (by rw [hnl, hm0, Nat.zero_mul])
      subst hnews
      refine ⟨w, a0, 0, G, ?_, rfl, rfl, rfl, rfl, Nat.le_refl _, fun L' _ => Lk.refl _ _ _, fun cv' _ => ⟨⟨by rw [hlen]; omega, .inl rfl⟩, ⟨by omega, .inl rfl⟩⟩⟩
      rw [hl0, hm0]
      refine hrunOf (.slice a0 0 0) w ?_
      have e1 := hsn.len; have e2 := hsn.cells
      rw [hm0] at e1 e2
      rw [hs, hl0, ex, hm0]
      rw [ex, hm0] at e1 e2
      rcases hsn.kind with ⟨e'', hk⟩ | hk <;> cases a0 <;> simp [Builtin.append_, run_underlying hu, run_underlying hk, sizeOf, typeInfo, i1, e1, e2, storeCells]
    · have hmul : (List.length l + List.length m) * ts.size ≤ c * ts.size := Nat.mul_le_mul_right _ hroom
      rw [Nat.add_mul] at hmul
      have hc : ∀ j, j < news.length → G.own b (p + List.length l * ts.size + j) = L ∧ w.frozen? ⟨b, p + List.length l * ts.size + j, none⟩ = false ∧ (at_ w b (p + List.length l * ts.size + j)).isSome = true := by
        intro j hj
        have := hc0 (List.length l * ts.size + j) (by omega)
        rwa [← Nat.add_assoc] at this
      have hrun := hrunOf _ _ (by rw [hs, ea, ex]; rw [ex] at hsn; exact run_append_room_src (w := w) T T' o.type e I hu i1 b p _ _ _ _ news hsn hroom (by rw [hsize]; exact fun j hj => (hc j hj).2.2) (by rw [hsize]; exact fun j hj => (hc j hj).2.1))
      rw [hsize] at hrun
      obtain ⟨o1, o2, o3⟩ := world_setCells b news (p + List.length l * ts.size) w
      refine ⟨_, some ⟨b, p, none⟩, c, G, hrun, rfl, o1, o2, o3, by rw [size_setCells]; exact Nat.le_refl _, fun L' hL' => lk_set (fun j hj => (hc j hj).1) L' hL', fun cv' hcv => (fun h => ⟨h, by rw [ea]; exact front h⟩) ⟨by rw [hlen]; exact hroom, .inr ⟨b, p, rfl, fun j hj => ?_, fun i hi => ?_⟩⟩⟩
      · obtain ⟨c1, c2, c3⟩ := hc0 j hj
        refine ⟨c1, by rw [World.frozen?_setCells]; exact c2, ?_⟩
        by_cases hin : List.length l * ts.size ≤ j ∧ j < List.length l * ts.size + news.length
        · have := at_set_in (w := w) (b := b) (p := p + List.length l * ts.size) (vs := news) (fun j hj => (hc j hj).2.2) (j - List.length l * ts.size) (by omega)
          rw [show p + List.length l * ts.size + (j - List.length l * ts.size) = p + j by omega] at this
          rw [this]; rfl
        · rw [at_set_out (by omega)]; exact c3
      · rw [hlen] at hi
        by_cases hi' : i < List.length l
        · rw [rd_appL hi']
          have hm2 : (i + 1) * ts.size ≤ List.length l * ts.size := Nat.mul_le_mul_right _ (by omega)
          rw [Nat.add_mul, Nat.one_mul] at hm2
          exact elG_mono ts _ _ _ _ (fun j v hj e => by rw [at_set_out (by omega)]; exact e) hcv (hel i hi')
        · rw [rd_appR (by omega)]
          have := hnc (at_ (w.setCells b (p + List.length l * ts.size) news)) b (p + List.length l * ts.size) (fun j hj => at_set_in (fun j hj => (hc j hj).2.2) j hj) (i - List.length l) (by omega)
          rw [show p + List.length l * ts.size + (i - List.length l) * ts.size = p + i * ts.size by
            rw [Nat.add_assoc, ← Nat.add_mul]; congr 2; omega, show List.length l * ts.size + (i - List.length l) * ts.size = i * ts.size by rw [← Nat.add_mul]; congr 1; omega] at this
          exact elG_mono ts _ _ _ _ (fun _ _ _ e => e) hcv this
  · have hg : c < List.length l + List.length m := Nat.lt_of_not_le hroom
    have hgc := grownCap_ge w (List.length l + List.length m) c e
    have hcap : Builtin.nextslicecap (List.length l + List.length m) c * I.bytes ≤ 281474976710656 := by
      have h1 := nextcap_le hg
      exact Nat.le_trans (Nat.mul_le_mul h1 i3) (by omega)
    rw [hs] at eo hso
    cases eo
    rw [ex] at hsn
    have hrun := run_append_grow_src (w := w) T T' o.type e I z hu i1 z2 a0 (List.length l) c olds hso.cellsD _ _ news hsn hg (by omega) hcap
    rw [← ex, ← hs] at hrun
    have hrun := hrunOf _ _ hrun
    generalize grownCap w (List.length l + List.length m) c e = gc at hgc hrun
    obtain ⟨vs, hvs⟩ : ∃ vs : List Value, vs = olds ++ news ++ (Builtin.zeroCells z.cells (gc - (List.length l + List.length m))).toList := ⟨_, rfl⟩
    have hobj : (olds ++ news).toArray ++ Builtin.zeroCells z.cells (gc - (List.length l + List.length m)) = vs.toArray := by
      apply Array.ext'
      simp [hvs]
    rw [hobj] at hrun
    have hzs : z.cells.size = ts.size := by rw [z3, ← hsz]; simpa using zero_len us.2
    have hvl : vs.length = gc * ts.size := by
      rw [hvs]
      simp only [List.length_append, Array.length_toList, size_zeroCells, hol, hnl, hzs]
      rw [← Nat.add_mul, ← Nat.add_mul]; congr 1; omega
    have hc : ∀ j, j < vs.length → at_ (w.drew.alloc (.cells vs.toArray e)) w.heap.size j = some (vs.getD j undef) := by
      intro j hj
      exact at_new (w1 := w.drew) hj
    have hsz' : w.heap.size ≤ (w.drew.alloc (.cells vs.toArray e)).heap.size := by
      have : w.drew.heap.size = w.heap.size := rfl
      rw [← this]; simp
    have hlk : ∀ L', Lk G w ⟨fun b o => if b = w.heap.size then L else G.own b o, G.anch⟩ (w.drew.alloc (.cells vs.toArray e)) L' L' := fun L' b o hb h =>
      ⟨by simp [Nat.ne_of_lt hb, h], at_alloc_old (w := w.drew) hb, fz_alloc_old (w := w.drew) hb⟩
    refine ⟨_, some ⟨w.heap.size, 0, none⟩, gc, ⟨fun b o => if b = w.heap.size then L else G.own b o, G.anch⟩, hrun, rfl, rfl, rfl, rfl, hsz', fun L' _ => hlk L', fun cv' hcv => ⟨⟨by rw [hlen]; exact hgc, .inr ⟨w.heap.size, 0, rfl, fun j hj => ?_, fun i hi => ?_⟩⟩, rowG_keep hcv (hlk L) ⟨r1, r2⟩⟩⟩
    · rw [Nat.zero_add]
      have := hc j (by omega)
      exact ⟨by simp, fr_new (w1 := w.drew), by rw [this]; rfl⟩
    · rw [hlen] at hi
      have hc1 : ∀ j, j < olds.length → at_ (w.drew.alloc (.cells vs.toArray e)) w.heap.size (0 + j) = some (olds.getD j undef) := fun j hj => by
        rw [Nat.zero_add, hc j (by rw [hvs]; simp only [List.length_append]; omega), hvs]
        simp [List.getD_eq_getElem?_getD, List.append_assoc, List.getElem?_append_left hj]
      have hc2 : ∀ j, j < news.length → at_ (w.drew.alloc (.cells vs.toArray e)) w.heap.size (List.length l * ts.size + j) = some (news.getD j undef) := fun j hj => by
        rw [← hol, hc (olds.length + j) (by rw [hvs]; simp only [List.length_append]; omega), hvs, List.getD_eq_getElem?_getD, List.getD_eq_getElem?_getD, List.append_assoc, List.getElem?_append_right (by omega), List.getElem?_append_left (by omega)]
        rw [show olds.length + j - olds.length = j by omega]
      by_cases hi' : i < List.length l
      · rw [rd_appL hi']
        have := hoc _ _ _ hc1 i hi'
        rw [Nat.zero_add (i * ts.size)] at this
        rw [Nat.zero_add]
        exact elG_mono ts _ _ _ _ (fun _ _ _ e => e) hcv this
      · rw [rd_appR (by omega)]
        have := hnc _ _ _ hc2 (i - List.length l) (by omega)
        rw [show List.length l * ts.size + (i - List.length l) * ts.size = i * ts.size by rw [← Nat.add_mul]; congr 1; omega] at this
        rw [Nat.zero_add]
        exact elG_mono ts _ _ _ _ (fun _ _ _ e => e) hcv this
theorem cvOf_mono {G G' : Gh} {w w' : World} {r : Nat} (own : Bool) {L : Lab} (hL : ∀ k, L ≠ .of r (k + 1)) (hf : L ≠ .free) (hc : ∀ L', L' ≠ L → Lk G w G' w' L' L') (k : Nat) (t : Ty) (x : t.den) (v : Value) (h : cvOf G w r own k t x v) : cvOf G' w' r own k t x v :=
  cvOf_keep own (vw_free (hc _ (Ne.symm hf))) (fun _ => hc _ (Ne.symm (hL k))) t x v h
theorem fr_of {G G' : Gh} {w w' : World} {r s : Nat} {ex : Nat → Prop} (ha : ∀ r', ¬ ex r' → G'.anch r' = G.anch r') (hx : ex r) (h1 : w'.os = w.os) (h2 : w'.tape = w.tape) (h3 : w'.output = w.output) (h4 : w.heap.size ≤ w'.heap.size) (hc : ∀ L', L' ≠ .of r s → Lk G w G' w' L' L') : Fr G w G' w' ex :=
  ⟨h1, h2, h3, h4, hc _ (fun e => by cases e), hc _ (fun e => by cases e), fun r' hr' => ⟨ha r' hr', fun s' => hc _ (fun e => by cases e; exact hr' hx)⟩⟩
theorem cast_self (t : Ty) (x : t.den) : t.cast t x = some x := by
  unfold Ty.cast
  have key : ∀ t : Ty, ∃ p, t.eq? t = some p := by
    intro t
    induction t with
    | bool => exact ⟨_, rfl⟩
    | str => exact ⟨_, rfl⟩
    | nil => exact ⟨_, rfl⟩
    | int k => exact ⟨⟨rfl⟩, by simp [Ty.eq?]⟩
    | slice ts ih => obtain ⟨p, h⟩ := ih; exact ⟨⟨rfl⟩, by simp [Ty.eq?, h]⟩
    | cons t ts h1 h2 => obtain ⟨p, h⟩ := h1; obtain ⟨q, g⟩ := h2; exact ⟨⟨rfl⟩, by simp [Ty.eq?, h, g]⟩
  obtain ⟨p, h⟩ := key t
  rw [h]
theorem setInner_same : ∀ (ts : Ty) (x : ts.den) (f : Nat) (us : Ty) (m : List us.den), innerOf ts x f = some ⟨us, m⟩ → setInner ts x f us m = some x
  | .cons (.slice vs) ts, x, 0, us, m, h => by cases h; simp only [setInner, cast_self]; rfl
  | .cons t ts, x, f + 1, us, m, h => by
    have h : innerOf ts x.2 f = some ⟨us, m⟩ := by cases t <;> exact h
    have := setInner_same ts x.2 f us m h
    cases t <;> (simp only [setInner, this]; rfl)
  | .cons .bool ts, x, 0, us, m, h => by cases h
  | .cons (.int _) ts, x, 0, us, m, h => by cases h
  | .cons .str ts, x, 0, us, m, h => by cases h
  | .cons .nil ts, x, 0, us, m, h => by cases h
  | .cons (.cons _ _) ts, x, 0, us, m, h => by cases h
  | .bool, _, _, _, _, h => by cases h
  | .int _, _, _, _, _, h => by cases h
  | .str, _, _, _, _, h => by cases h
  | .slice _, _, _, _, _, h => by cases h
  | .nil, _, _, _, _, h => by cases h
theorem op_append {xs xx : Operand} {Ts : Array TypeId} (hT : TabOk P tab) (ho : o.op = .call ⟨.builtin .append, #[xs, xx], Ts⟩) (hR : Rel G σ a w) (hn : Nxt false G σ w a o.dst K r next)
    (h : evBuiltin .append (argTs tab .append Ts.toList) [σ.eval xs, σ.eval xx] σ K = some r) : o.wp P a w next Q := by
  have hxs := hR.eval xs
  have hxx := hR.eval xx
  cases hus : argTs tab .append Ts.toList with
  | none => rw [hus] at h; cases h
  | some us =>
    rw [hus] at h
    obtain ⟨T, T', hTs, he, us', he'⟩ : ∃ T T', Ts = #[T, T'] ∧ elemTs tab T = some us ∧ ∃ us', elemTs tab T' = some us' := by
      simp only [argTs] at hus
      split at hus
      · rename_i T T' hTs
        split at hus
        · rename_i us' hu'; exact ⟨T, T', Array.ext' hTs, hus, us', hu'⟩
        · cases hus
      · cases hus
    simp only [evBuiltin] at h
    · generalize hav : σ.eval xs = av at h hxs
      cases av with
      | nl ts =>
        obtain ⟨hb, h⟩ := chk_some h
        obtain ⟨hb1, hb2⟩ := and2 hb
        have hb1 := beq_nat hb1
        split at h
        · rename_i m rs hsrc
          rcases br_some h with ⟨hfit, hK⟩ | ⟨_, hK⟩
          · obtain ⟨τ, hτ, g1, g2, g3⟩ := srcOf_spec hR.roots hsrc hxx σ.roots.length (List.length ([] : List ts.den) * ts.size)
            obtain ⟨a0, e0⟩ := hxs
            obtain ⟨w', a', c', G', hrun, i1, i2, i3, i4, i5, i6, i7⟩ := append_row (G := relab G τ) hT ho hTs he he' (cv_one us.1) (L := .of σ.roots.length 0) (l := []) (a0 := a0) (c := 0) hb1 ⟨Nat.zero_le _, .inl rfl⟩ e0 g3 hfit ⟨_, _, rfl⟩
            have hlen : σ.roots.length = (eat us.1 σ rs).roots.length := (eat_len _ _ _).symm
            obtain ⟨h1, h2⟩ := add_roots (G' := ⟨G'.own, fun r => if r = σ.roots.length then (a', c') else G'.anch r⟩) (w' := w') (N := [⟨.row us.1 ts m, 0, 0⟩]) g1 (fr_of (r := σ.roots.length) (s := 0) (fun r' hr' => by
                simp only
                rw [if_neg (by omega), i1]) (by omega) i2 i3 i4 i5 (fun L' hL' => i6 L' hL')) (fun hE j q hj => by
                have e : j = 0 := by have := (List.getElem?_eq_some_iff.1 hj).1; simpa using this
                subst e
                simp at hj; subst hj
                simp only [rootOk, Nat.add_zero, ← hlen, if_true]
                have := (i7 (cvOf ⟨G'.own, fun r => if r = σ.roots.length then (a', c') else G'.anch r⟩ w' σ.roots.length us.1) (fun k t x v g => cvOf_mono (G' := ⟨G'.own, fun r => if r = σ.roots.length then (a', c') else G'.anch r⟩) us.1 (fun k e => by cases e) (fun e => by cases e) i6 k t x v g)).1
                exact rowG_keep (G := G') (fun k t x v g => g) (fun _ _ _ h => ⟨h, rfl, rfl⟩) (by simpa [app] using this))
            have hK' : K (.sl σ.roots.length 0) ⟨σ.tmps, (eat us.1 σ rs).roots ++ [⟨.row us.1 ts m, 0, 0⟩]⟩ = some r := by
              rw [← eat_tmps us.1 rs σ]; exact hK
            refine wp_of_value hrun (hn _ _ _ _ _ hK' h1 ⟨⟨.row us.1 ts m, 0, 0⟩, by rw [hlen]; simp, Nat.le_refl _, fun _ ts' n hh => ?_⟩ (g2.trans h2) (fun e => by cases e))
            cases hh
            simp
          · cases hK
        · cases h
      | sl rr aa =>
        obtain ⟨q, hq, hle, g⟩ := hxs
        simp only [hq] at h
        obtain ⟨kk, ver, anc⟩ := q
        cases kk with
        | row ow ts l =>
          obtain ⟨hb, h⟩ := chk_some h
          obtain ⟨hb1, hb2⟩ := and2 hb
          have hb1 := beq_nat hb1
          have hb2 := beq_nat hb2
          subst hb1
          split at h
          · rename_i m rs hsrc
            obtain ⟨hnm, h⟩ := chk_some h
            have hnm : rr ∉ rs := fun hm => by rw [mem_memN.2 hm] at hnm; cases hnm
            rcases br_some h with ⟨hfit, hK⟩ | ⟨_, hK⟩
            · obtain ⟨τ, hτ, g1, g2, g3⟩ := srcOf_spec hR.roots hsrc hxx rr (List.length l * ts.size)
              have hq1 : (eat ow σ rs).roots[rr]? = some ⟨.row ow ts l, ver, aa⟩ := by rw [eat_get, if_neg hnm]; exact hq
              have hrow : rowG (relab G τ) w (cvOf (relab G τ) w rr ow) (.of rr 0) ts l (G.anch rr).1 (G.anch rr).2 := g1 rr _ hq1
              obtain ⟨w', a', c', G', hrun, i1, i2, i3, i4, i5, i6, i7⟩ := append_row (G := relab G τ) hT ho hTs he he' (cv_one ow) hb2 hrow (g rfl ts (List.length l) rfl) g3 hfit ⟨_, _, rfl⟩
              obtain ⟨h1, h2⟩ := upd_root (G' := ⟨G'.own, fun r => if r = rr then (a', c') else G'.anch r⟩) (w' := w') (q' := ⟨.row ow ts (app l m), ver + 1, aa + 1⟩) g1 hq1 (fr_of (r := rr) (s := 0) (fun r' hr' => by
                  simp only
                  rw [if_neg hr', i1]) rfl i2 i3 i4 i5 (fun L' hL' => i6 L' hL'))
                (RLe.row' (fun _ _ e => by cases e) (fun _ _ e => by cases e) (Nat.lt_succ_self _) (Nat.le_succ _) (fun e => absurd e (by simp))) (fun hE => by
                  simp only [rootOk, if_true]
                  have := (i7 (cvOf ⟨G'.own, fun r => if r = rr then (a', c') else G'.anch r⟩ w' rr ow) (fun k t x v g => cvOf_mono (G' := ⟨G'.own, fun r => if r = rr then (a', c') else G'.anch r⟩) ow (fun k e => by cases e) (fun e => by cases e) i6 k t x v g)).1
                  exact rowG_keep (fun k t x v g => g) (fun _ _ _ h => ⟨h, rfl, rfl⟩) this)
              have hK' : K (.sl rr (aa + 1)) ⟨σ.tmps, (eat ow σ rs).roots.set rr ⟨.row ow ts (app l m), ver + 1, aa + 1⟩⟩ = some r := by
                rw [← eat_tmps ow rs σ]; exact hK
              refine wp_of_value hrun (hn _ _ _ _ _ hK' h1 ⟨⟨.row ow ts (app l m), ver + 1, aa + 1⟩, List.getElem?_set_self (List.getElem?_eq_some_iff.1 hq1).1, Nat.le_refl _, fun _ ts' n hh => ?_⟩ (g2.trans h2) (fun e => by cases e))
              cases hh
              simp [app]
            · cases hK
          · cases h
        | _ => cases h
      | hd rr aa n0 =>
        obtain ⟨q, hq, hle, g⟩ := hxs
        simp only [hq] at h
        obtain ⟨kk, ver, anc⟩ := q
        cases kk with
        | row ow ts l =>
          obtain ⟨hb, h⟩ := chk_some h
          obtain ⟨hb1, hb2⟩ := and2 hb
          have hb1 := beq_nat hb1
          have hb2 := beq_nat hb2
          subst hb1
          obtain ⟨hn0, ev0⟩ := g rfl ts (List.length l) rfl
          split at h
          · rename_i m rs hsrc
            obtain ⟨hnm, h⟩ := chk_some h
            have hnm : rr ∉ rs := fun hm => by rw [mem_memN.2 hm] at hnm; cases hnm
            rcases br_some h with ⟨hfit, hK⟩ | ⟨_, hK⟩
            · obtain ⟨τ, hτ, g1, g2, g3⟩ := srcOf_spec hR.roots hsrc hxx rr (List.length (tk l n0) * ts.size)
              have hq1 : (eat ow σ rs).roots[rr]? = some ⟨.row ow ts l, ver, aa⟩ := by rw [eat_get, if_neg hnm]; exact hq
              have hrow : rowG (relab G τ) w (cvOf (relab G τ) w rr ow) (.of rr 0) ts l (G.anch rr).1 (G.anch rr).2 := g1 rr _ hq1
              obtain ⟨w', a', c', G', hrun, i1, i2, i3, i4, i5, i6, i7⟩ := append_row (G := relab G τ) hT ho hTs he he' (cv_one ow) hb2 (rowG_take hrow hn0) (by rw [len_tk hn0]; exact ev0) g3 hfit ⟨_, _, rfl⟩
              obtain ⟨h1, h2⟩ := upd_root (G' := ⟨G'.own, fun r => if r = rr then (a', c') else G'.anch r⟩) (w' := w') (q' := ⟨.row ow ts (app (tk l n0) m), ver + 1, aa + 1⟩) g1 hq1 (fr_of (r := rr) (s := 0) (fun r' hr' => by
                  simp only
                  rw [if_neg hr', i1]) rfl i2 i3 i4 i5 (fun L' hL' => i6 L' hL'))
                (RLe.row' (fun _ _ e => by cases e) (fun _ _ e => by cases e) (Nat.lt_succ_self _) (Nat.le_succ _) (fun e => absurd e (by simp))) (fun hE => by
                  simp only [rootOk, if_true]
                  have := (i7 (cvOf ⟨G'.own, fun r => if r = rr then (a', c') else G'.anch r⟩ w' rr ow) (fun k t x v g => cvOf_mono (G' := ⟨G'.own, fun r => if r = rr then (a', c') else G'.anch r⟩) ow (fun k e => by cases e) (fun e => by cases e) i6 k t x v g)).1
                  exact rowG_keep (fun k t x v g => g) (fun _ _ _ h => ⟨h, rfl, rfl⟩) this)
              have hK' : K (.sl rr (aa + 1)) ⟨σ.tmps, (eat ow σ rs).roots.set rr ⟨.row ow ts (app (tk l n0) m), ver + 1, aa + 1⟩⟩ = some r := by
                rw [← eat_tmps ow rs σ]; exact hK
              refine wp_of_value hrun (hn _ _ _ _ _ hK' h1 ⟨⟨.row ow ts (app (tk l n0) m), ver + 1, aa + 1⟩, List.getElem?_set_self (List.getElem?_eq_some_iff.1 hq1).1, Nat.le_refl _, fun _ ts' n hh => ?_⟩ (g2.trans h2) (fun e => by cases e))
              cases hh
              simp [app]
            · cases hK
          · cases h
        | _ => cases h
      | il rr s i f =>
        have hil := hxs
        obtain ⟨q, hq, hle, g⟩ := hxs
        simp only [hq] at h
        obtain ⟨kk, ver, anc⟩ := q
        cases kk with
        | row ow ts l =>
          cases ow with
          | false => cases h
          | true =>
            cases hin : innerOf ts (rd ts l i) f with
            | none => simp only [hin] at h; cases h
            | some pr =>
              obtain ⟨vs, n⟩ := pr
              simp only [hin] at h
              obtain ⟨hb, h⟩ := chk_some h
              obtain ⟨hb, hb3⟩ := and2 hb
              obtain ⟨hb1, hb2⟩ := and2 hb
              have hb1 := beq_nat hb1
              have hb2 := beq_nat hb2
              have hb3 : vs.hasSl = false := by simpa using hb3
              subst hb1
              obtain ⟨j1, j2, a1, n1, e1, e2⟩ := il_spec hR.roots hq rfl hin hil
              split at h
              · rename_i m rs hsrc
                rcases br_some h with ⟨hfit, hK⟩ | ⟨_, hK⟩
                · have hrs : rs = [] := by
                    unfold srcOf at hsrc
                    rw [hb3] at hsrc
                    simp only at hsrc
                    split at hsrc
                    · split at hsrc
                      · cases hsrc; rfl
                      · cases hsrc
                    · cases hsrc
                  subst hrs
                  have g3 : Elems w (flatV (vw G w)) vs m (List.length n * vs.size) (a.eval xx) := by
                    obtain ⟨τ, hτ, _, _, g3⟩ := srcOf_spec hR.roots hsrc hxx 0 (List.length n * vs.size)
                    have : relab G τ = G := by
                      have : τ = fun r s => .of r s := by funext r s; exact hτ r (by simp) s
                      rw [this, relab_id]
                    rw [this] at g3; exact g3
                  obtain ⟨w', a', c', G', hrun, k1, k2, k3, k4, k5, k6, k7⟩ := append_row hT ho hTs he he' (fun k t x v g => cv_one (r := 0) (G := G) (w := w) false k t x v g) hb2 e2 e1 g3 hfit ⟨_, _, rfl⟩
                  have hu : ∀ b o v, vw G w b o = some v → vw G' w' b o = some v := vw_free (k6 _ (fun e => by cases e))
                  have hrow : rowG G w (deepV G w rr) (.of rr 0) ts l (G.anch rr).1 (G.anch rr).2 := hR.roots rr _ hq
                  obtain ⟨hnew, hold⟩ := k7 (flatV (vw G' w')) (fun k t x v g => flatV_keep hu k k t x v g)
                  obtain ⟨h1, h2⟩ := upd_root (G' := G') (w' := w') (q' := ⟨.row true ts l, s + 1, anc⟩) hR.roots hq (fr_of (r := rr) (s := i * ts.size + f + 1) (fun r' hr' => by rw [k1]) rfl k2 k3 k4 k5 k6)
                    (RLe.row' (fun _ _ e => by cases e) (fun _ _ e => by cases e) (Nat.lt_succ_self _) (Nat.le_refl _) (fun _ => .inr ⟨rfl, by rw [k1]⟩)) (fun hE => by
                      -- the row stands; the row in the cell is a front of the new one
                      show rowG G' w' (deepV G' w' rr) (.of rr 0) ts l (G'.anch rr).1 (G'.anch rr).2
                      rw [k1]
                      have hrow' : rowG G' w' (deepV G w rr) (.of rr 0) ts l (G.anch rr).1 (G.anch rr).2 := rowG_keep (fun _ _ _ _ g => g) (k6 _ (fun e => by cases e)) hrow
                      obtain ⟨q1, q2⟩ := hrow'
                      refine ⟨q1, q2.imp id ?_⟩
                      rintro ⟨b4, p4, ea4, d1, d2⟩
                      refine ⟨b4, p4, ea4, d1, fun i' hi' => ?_⟩
                      have hkeep : ∀ k, k ≠ i * ts.size + f → ∀ t x v, deepV G w rr k t x v → deepV G' w' rr k t x v := fun k hk t x v g => deepV_keep hu (k6 _ (fun e => by cases e; omega)) t x v g
                      by_cases e : i' = i
                      · subst e
                        have hdd := d2 i' hi'
                        obtain ⟨_, vv, ee, a2, n2, e3, e4⟩ := inner_spec ts _ _ _ f vs n hin hdd
                        have hset : setInner ts (rd ts l i') f vs n = some (rd ts l i') := setInner_same ts _ f vs n hin
                        -- the head in the cell
                        obtain ⟨_, _, b, o, g3, g4, g5⟩ := g rfl true ts l rfl
                        rw [ea4] at g3; cases g3
                        have ee' : at_ w' b4 (p4 + i' * ts.size + f) = some (a.eval xs) := by
                          rw [(k6 (.of rr 0) (fun e => by cases e) _ _ (lt_of_at g5) g4).2.1]; exact g5
                        exact setInner_spec ts _ _ f _ _ hset hdd (fun _ _ _ _ e => e) (fun j hj hne t x v g => hkeep _ (by omega) t x v g) ee' ⟨a1, n1, e1, hold⟩
                      · refine elG_move ts _ b4 _ _ b4 _ _ (fun _ _ _ e => e) (fun k hk t x v g => hkeep _ (fun e' => ?_) t x v g) (d2 i' hi')
                        have := el_apart (f := f) (n := 1) e hk (by omega)
                        omega)
                  refine wp_of_value hrun (hn _ _ _ _ _ hK h1 ⟨⟨.row true ts l, s + 1, anc⟩, List.getElem?_set_self (List.getElem?_eq_some_iff.1 hq).1, Nat.le_refl _, fun _ ow' ts' l' hh => ?_⟩ h2 (fun e => by cases e))
                  cases hh
                  exact ⟨j1, j2, a', c', by simp [app], hnew⟩
                · cases hK
              · cases h
        | _ => cases h
      | _ => cases h
end
end
end Go.Proofs.YtpihkhknehadbaaGreat.Eng
