/- Functions: entered in place, and as a whole. No condition. -/
import Derived.Test.YtpihkhknehadbaaGreatEngCall
namespace Go.Proofs.YtpihkhknehadbaaGreat.Eng
open Go.RowKit
set_option linter.unusedVariables false
section
variable {P : Program} {tab : List (Nat × TI)} {soft : Bool} {Γ : List (Nat × Ent)}
/-- what a result's variable holds -/
def resRun (a : Act) : ResultVar → Sem Value
  | .tmp t => pure (a.tmps.getD t undef)
  | .cell p t => do loadVar t (← asAddr (a.tmps.getD p undef))
theorem res_one (hT : TabOk P tab) {G : Gh} {σ : St} {a : Act} {w : World} (hR : Rel G σ a w) {rv : ResultVar} (h : resOk tab σ rv = true) : ∃ x, (resRun a rv).run P w = .ok x w ∧ (avR G σ.roots w (resVar tab σ rv)).1 x := by
  cases rv with
  | tmp t => exact ⟨_, rfl, hR.tmps t⟩
  | cell p T =>
    simp only [resOk] at h
    split at h
    · rename_i i r f hi hp
      split at h
      · rename_i cs ss ver anc hq
        have hx := hR.tmps p
        rw [hp] at hx
        obtain ⟨q, hq', g⟩ := hx
        rw [hq] at hq'; cases hq'
        obtain ⟨b, o, ea, e⟩ := g cs.length .nil rfl
        obtain ⟨_, b', o', ea', hcs⟩ := hR.roots r _ hq
        rw [ea] at ea'; cases ea'
        obtain ⟨vs, hl, hc, ha⟩ := box_cells cs o f i.cells.size (fun f hf => let ⟨_, _, v, e, g⟩ := hcs f hf; ⟨v, e, g⟩) (ble_nat h)
        have hrun := run_load_cells hT hi (w := w) (b := b) (o := o + f) vs hl (fun j hj => hc j (hl ▸ hj))
        refine ⟨if i.agg then .agg vs.toArray else vs.getD 0 undef, ?_, ?_⟩
        · show (do loadVar T (← asAddr (a.tmps.getD p undef))).run P w = _
          rw [e]
          simp only [asAddr, Sem.run_bind, Sem.run_pure, Result.andThen_ok]
          exact hrun
        · have hv : resVar tab σ (.cell p T) = one i (headAV i.cells.size (dropAV f (.ofList cs))) := by
            simp only [resVar, hi, hp, hq, h]
          rw [hv]
          exact one_av hl (hT T i hi).one ha
      · cases h
    · cases h
/-- a list of results as one value -/
def tupV : List Value → Value
  | [v] => v
  | vs => .tuple vs.toArray
theorem tup_av {G : Gh} {Rs : List Root} {w : World} {as : List AV} {xs : List Value} (hl : as.length = xs.length) (h : ∀ i, i < as.length → (avR G Rs w (as.getD i .undef)).1 (xs.getD i undef)) : (avR G Rs w (tupAV as)).1 (tupV xs) := by
  have many : ∀ (as : List AV) (xs : List Value), as.length = xs.length → (∀ i, i < as.length → (avR G Rs w (as.getD i .undef)).1 (xs.getD i undef)) → (avR G Rs w (.ofList as)).2 xs := by
    intro as
    induction as with
    | nil => intro xs hl _; cases xs with
      | nil => rfl
      | cons _ _ => simp at hl
    | cons a as ih =>
      intro xs hl h
      cases xs with
      | nil => simp at hl
      | cons x xs => exact ⟨x, xs, rfl, h 0 (by simp), ih xs (by simpa using hl) (fun i hi => by simpa using h (i + 1) (by simpa using hi))⟩
  cases as with
  | nil =>
    cases xs with
    | nil => exact ⟨[], rfl, rfl⟩
    | cons _ _ => simp at hl
  | cons a as =>
    cases xs with
    | nil => simp at hl
    | cons x xs =>
      cases as with
      | nil =>
        cases xs with
        | nil => exact h 0 (by simp)
        | cons _ _ => simp at hl
      | cons a' as =>
        cases xs with
        | nil => simp at hl
        | cons x' xs => exact ⟨_, rfl, many _ _ hl h⟩
theorem results_run {fn : Func} {a : Act} {w : World} {xs : List Value} (h : ∀ (rs : List ResultVar), rs = fn.results.toList → xs.length = rs.length ∧ ∀ i rv, rs[i]? = some rv → (resRun a rv).run P w = .ok (xs.getD i undef) w) : (results fn a.tmps).run P w = .ok (tupV xs) w := by
  obtain ⟨hl, hr⟩ := h _ rfl
  have key : ∀ (rs : List ResultVar) (xs : List Value), xs.length = rs.length → (∀ i rv, rs[i]? = some rv → (resRun a rv).run P w = .ok (xs.getD i undef) w) → (rs.mapM (resRun a)).run P w = .ok xs w := by
    intro rs
    induction rs with
    | nil => intro xs hl _; cases xs with
      | nil => rfl
      | cons _ _ => simp at hl
    | cons rv rs ih =>
      intro xs hl hr
      cases xs with
      | nil => simp at hl
      | cons x xs =>
        have h1 := hr 0 rv rfl
        have h2 := ih xs (by simpa using hl) (fun i rv hi => by simpa using hr (i + 1) rv (by simpa using hi))
        simp only [List.mapM_cons, Sem.run_bind, h1, Result.andThen_ok, h2]
        rfl
  have hm := key fn.results.toList xs hl hr
  have e : (results fn a.tmps) = (do let vs ← fn.results.mapM (resRun a); pure (if h : vs.size = 1 then vs[0] else .tuple vs)) := by
    unfold results
    congr 1
  rw [e, Array.mapM_eq_mapM_toList]
  have hmap : (List.toArray <$> fn.results.toList.mapM (resRun a)).run P w = .ok xs.toArray w := by
    rw [← bind_pure_comp]
    simp only [Sem.run_bind, hm, Result.andThen_ok]
    rfl
  simp only [Sem.run_bind, hmap, Result.andThen_ok]
  cases xs with
  | nil => rfl
  | cons x xs => cases xs with
    | nil => rfl
    | cons x' xs => simp [tupV]
theorem res_all (hT : TabOk P tab) {a : Act} {w : World} : ∀ (rs : List ResultVar) (G : Gh) (σ : St), Rel G σ a w → resOks tab σ rs = true → ∃ (xs : List Value) (G' : Gh), xs.length = rs.length ∧ (∀ i rv, rs[i]? = some rv → (resRun a rv).run P w = .ok (xs.getD i undef) w) ∧
    (cutRes tab σ rs).2.tmps = σ.tmps ∧ RelR G' (cutRes tab σ rs).2.roots w ∧ Evo G σ.roots w G' (cutRes tab σ rs).2.roots w ∧ (cutRes tab σ rs).1.length = xs.length ∧
    ∀ i, i < (cutRes tab σ rs).1.length → (avR G' (cutRes tab σ rs).2.roots w ((cutRes tab σ rs).1.getD i .undef)).1 (xs.getD i undef)
  | [], G, σ, hR, _ => ⟨[], G, rfl, fun i rv h => by simp at h, rfl, hR.roots, Evo.refl _ _ _, rfl, fun i hi => by simp [cutRes] at hi⟩
  | r :: rs, G, σ, hR, h => by
    obtain ⟨h1, h2⟩ := and2 h
    obtain ⟨x, hx, hv⟩ := res_one hT hR h1
    obtain ⟨ht, G1, g1, g2, g3⟩ := cutTl_spec hR.roots hv
    have hR1 : Rel G1 (cutTl σ (resVar tab σ r)).2 a w := by
      have := hR.evo g1 g2
      have e : (⟨σ.tmps, (cutTl σ (resVar tab σ r)).2.roots⟩ : St) = (cutTl σ (resVar tab σ r)).2 := by rw [← ht]
      rwa [e] at this
    obtain ⟨xs, G2, l1, l2, l3, l4, l5, l6, l7⟩ := res_all hT rs G1 _ hR1 h2
    refine ⟨x :: xs, G2, by simp [l1], fun i rv hi => ?_, l3.trans ht, l4, g2.trans l5, by simp [cutRes, l6], fun i hi => ?_⟩
    · cases i with
      | zero => simp at hi; subst hi; exact hx
      | succ i => simpa using l2 i rv (by simpa using hi)
    · cases i with
      | zero => exact (avR_evo l5 _).1 _ g3
      | succ i => simpa [cutRes] using l7 i (by simpa [cutRes] using hi)
/-- what the table of functions says -/
def EntOk (P : Program) (f : Nat) : Ent → Prop
  | .sig g => FnHas P f
  | .inl fn H => P.funcs[f]? = some fn ∧ (fn.name == "runtime.NumGoroutine") = false
theorem entry_rel {G : Gh} {Rs : List Root} {w : World} {as : List AV} {args : List Value} {n : Nat} (hR : RelR G Rs w) (hl : args.length = as.length) (hv : ∀ i, i < as.length → (avR G Rs w (as.getD i .undef)).1 (args.getD i undef)) :
    Rel G ⟨as ++ List.replicate (n - as.length) .undef, Rs⟩ ⟨args.toArray ++ Array.replicate (n - args.toArray.size) undef, []⟩ w := by
  refine ⟨hR, rfl, by simp; omega, fun t => ?_⟩
  show (avR G Rs w ((as ++ List.replicate (n - as.length) AV.undef).getD t .undef)).1 _
  by_cases ht : t < as.length
  · have := hv t ht
    have e1 : (as ++ List.replicate (n - as.length) AV.undef).getD t .undef = as.getD t .undef := by
      rw [List.getD_eq_getElem?_getD, List.getElem?_append_left ht, List.getD_eq_getElem?_getD]
    have e2 : (args.toArray ++ Array.replicate (n - args.toArray.size) undef).getD t undef = args.getD t undef := by
      simp [Array.getElem?_append, hl, ht, List.getD_eq_getElem?_getD]
    show (avR G Rs w _).1 ((args.toArray ++ Array.replicate (n - args.toArray.size) undef).getD t undef)
    rw [e1, e2]; exact this
  · have e1 : (as ++ List.replicate (n - as.length) AV.undef).getD t .undef = .undef := by
      rw [List.getD_eq_getElem?_getD, List.getElem?_append_right (by omega), List.getElem?_replicate]
      split <;> rfl
    rw [e1]; exact trivial
/-- functions entered in place -/
theorem callN_ok {R : Type} {k : Nat} (hT : TabOk P tab) (hm : P.follows .mixedOrders = true) (hΓ : ∀ f e, look Γ f = some e → EntOk P f e)
    (hG : ∀ f g, look Γ f = some (.sig g) → ∀ as σ (K : AV → St → Option R) (r : R), callSig soft k g as σ K = some r → CallsTo P f as σ K r) :
    ∀ (n f : Nat) (as : List AV) (σ : St) (K : AV → St → Option R) (r : R), callN tab soft Γ k n f as σ K = some r → CallsTo P f as σ K r ∧ FnHas P f := by
  have hΓ' : ∀ f e, look Γ f = some e → (∃ g, e = .sig g) → FnHas P f := fun f e h ⟨g, hg⟩ => by subst hg; exact hΓ f _ h
  intro n
  induction n with
  | zero => intro f as σ K r h; cases h
  | succ n ih =>
    intro f as σ K r h
    simp only [callN] at h
    split at h
    · rename_i fn H hf
      split at h
      · rename_i c hb
        obtain ⟨hfn, hnm⟩ := hΓ f _ hf
        have hhas : FnHas P f := ⟨fn, hfn, hnm, by rw [hb]; rfl⟩
        refine ⟨fun G w args hR hl hv => ?_, hhas⟩
        have hall : ∀ f e, look Γ f = some e → FnHas P f ∨ ∃ fn H, e = .inl fn H := fun f e he => by
          cases e with
          | sig g => exact .inl (hΓ f _ he)
          | inl fn H => exact .inr ⟨fn, H, rfl⟩
        have hO : OpsOk P tab soft Γ R (callN tab soft Γ k n) k := ops_ok hT hΓ' hG (fun f as σ K r h => ih f as σ K r h)
        refine calls_of_wp hfn hb ?_
        refine ev_sound hO (evDraw_sound hm hO (reads_ok hT)) H c _ _ r h G _ w _ (entry_rel hR hl hv) (fun e σ' G' a' w' h1 h2 h3 h4 => ?_)
        have fin : chk (resOks tab σ' fn.results.toList) (K (tupAV (cutRes tab σ' fn.results.toList).1) ⟨σ.tmps, (cutRes tab σ' fn.results.toList).2.roots⟩) = some r → a'.defers = [] ∧ ∃ v, (results fn a'.tmps).run P w' = .ok v w' ∧
            ∃ v' R' G', K v' ⟨σ.tmps, R'⟩ = some r ∧ RelR G' R' w' ∧ (avR G' R' w' v').1 v ∧ Evo G σ.roots w G' R' w' := by
          intro h1
          obtain ⟨hok, hK⟩ := chk_some h1
          obtain ⟨xs, G2, l1, l2, l3, l4, l5, l6, l7⟩ := res_all hT fn.results.toList G' σ' h2 hok
          exact ⟨h2.defers, tupV xs, results_run (fun rs e => by subst e; exact ⟨l1, l2⟩), _, _, G2, hK, l4, tup_av l6 l7, h3.trans l5⟩
        cases e with
        | normal => exact fin h1
        | ret => exact fin h1
        | exit j => cases h1
      · cases h
    · cases h
/-! ### Contracts -/
def labs (n k : Nat) : List (Nat × Nat) := (List.range' n k).map (fun j => (j, 0))
theorem labs_consec (n k : Nat) : consec (labs n k) n k := by
  have := consec_range (n := n) (k := k) (L := [])
  rwa [List.append_nil] at this
theorem labs_zero (n k : Nat) : ∀ p ∈ labs n k, p.2 = 0 := fun p hp => by
  obtain ⟨j, _, e⟩ := List.mem_map.1 hp
  rw [← e]
/-- the values that are lent -/
def lentV : List Md → List Value → List Value
  | m :: ms, v :: vs => match isLent m with | true => v :: lentV ms vs | false => lentV ms vs
  | _, _ => []
/-- what a function does, told by its pure form -/
def FnOk (P : Program) (fid : Nat) (g : Sig) : Prop := FnHas P fid ∧ ∀ (k : Nat) (x : g.params.den) (y : g.res.den), g.f k x = some y → ∀ (G : Gh) (w : World) (vals : List Value), hAll G w g.params x g.pm vals (labs 0 (idsAll g.params g.pm)) →
  Calls P fid vals.toArray w (fun | .returned out, w' => ∃ (outs : List Value) (G' : Gh), out = tupV outs ∧ outs.length = g.n ∧ hAll G' w' g.res y g.rm (outs ++ lentV g.pm vals) (labs 0 (idsAll g.res g.rm)) ∧ Out G w G' w' | _, _ => False)
theorem lent_av {G : Gh} {Rs : List Root} {w : World} : ∀ (ts : Ty) (ms : List Md) (as : List AV) (vals : List Value) (x : ts.den) (G0 : Gh) (w0 : World) (L : List (Nat × Nat)), hAll G0 w0 ts x ms vals L → as.length = vals.length → (∀ i, i < as.length → (avR G Rs w (as.getD i .undef)).1 (vals.getD i undef)) →
    (lentAVs (withTys ts ms as)).length = (lentV ms vals).length ∧ ∀ i, i < (lentAVs (withTys ts ms as)).length → (avR G Rs w ((lentAVs (withTys ts ms as)).getD i .undef)).1 ((lentV ms vals).getD i undef) := by
  intro ts
  induction ts with
  | nil =>
    intro ms as vals x G0 w0 L h hl hv
    cases ms with
    | nil => exact ⟨by cases as <;> rfl, fun i hi => by cases as <;> simp [withTys, lentAVs] at hi⟩
    | cons _ _ => cases vals <;> exact h.elim
  | cons t ts _ ih =>
    intro ms as vals x G0 w0 L h hl hv
    cases ms with
    | nil => exact h.elim
    | cons m ms =>
      cases vals with
      | nil => exact h.elim
      | cons v vals =>
        cases as with
        | nil => simp at hl
        | cons a as =>
          obtain ⟨i1, i2⟩ := ih ms as vals x.2 G0 w0 _ h.2 (by simpa using hl) (fun i hi => by simpa using hv (i + 1) (by simpa using hi))
          have h0 := hv 0 (by simp)
          simp only [withTys, lentAVs, lentV]
          cases isLent m with
          | false => exact ⟨i1, i2⟩
          | true =>
            refine ⟨by simp [i1], fun i hi => ?_⟩
            cases i with
            | zero => exact h0
            | succ i => simpa using i2 i (by simpa using hi)
  | _ => intro ms as vals x G0 w0 L h; cases ms <;> cases vals <;> exact h.elim
/-- a function whose code the evaluator has run -/
theorem evFn_ok (hT : TabOk P tab) (hm : P.follows .mixedOrders = true) (hΓ : ∀ f e, look Γ f = some e → EntOk P f e)
    (hG : ∀ (R : Type) f g, look Γ f = some (.sig g) → ∀ k as σ (K : AV → St → Option R) (r : R), callSig soft k g as σ K = some r → CallsTo P f as σ K r)
    {fid : Nat} {fn : Func} {g : Sig} {H : List Hint} {c : Code} (hfn : P.funcs[fid]? = some fn) (hnm : (fn.name == "runtime.NumGoroutine") = false) (hb : fn.body = some c) (heq : ∀ k x, evFn tab soft Γ H fn g k x = g.f k x) : FnOk P fid g := by
  refine ⟨⟨fn, hfn, hnm, by rw [hb]; rfl⟩, fun k x y hy G w vals hall => ?_⟩
  rw [← heq] at hy
  unfold evFn at hy
  rw [hb] at hy
  simp only at hy
  -- what comes in
  obtain ⟨hNl, A, hAl, hin⟩ := in_all hall (labs_consec 0 _)
  let an : Nat → Option Addr × Nat := fun r => A.getD r (none, 0)
  obtain ⟨g1, g2, g3⟩ := hin an (fun j hj => by rw [Nat.zero_add]) (rowAll g.params x g.pm 0) (fun j q hq => by rw [Nat.zero_add]; exact hq)
  have hR0 : RelR ⟨G.own, an⟩ (rowAll g.params x g.pm 0) w := fun r q hq => by
    have := g1 r q hq
    rwa [Nat.zero_add] at this
  generalize has : inAll g.params x g.pm 0 = as at hy g2 g3
  have hΓ' : ∀ f e, look Γ f = some e → (∃ g, e = .sig g) → FnHas P f := fun f e h ⟨g, hg⟩ => by subst hg; exact hΓ f _ h
  have hO : OpsOk P tab soft Γ g.res.den (callN tab soft Γ k 4) k := ops_ok hT hΓ' (fun f g hg as σ K r h => hG _ f g hg k as σ K r h) (fun f as σ K r h => callN_ok hT hm hΓ (fun f g hg as σ K r h => hG _ f g hg k as σ K r h) 4 f as σ K r h)
  refine calls_of_wp hfn hb ?_
  refine ev_sound hO (evDraw_sound hm hO (reads_ok hT)) H c _ _ y hy ⟨G.own, an⟩ _ w _ (entry_rel hR0 g2.symm (fun i hi => g3 i (by omega))) (fun e σ' G' a' w' h1 h2 h3 h4 => ?_)
  have fin : outFn tab g as fn.results.toList σ' = some y → a'.defers = [] ∧ ∃ v, (results fn a'.tmps).run P w' = .ok v w' ∧
      ∃ (outs : List Value) (G' : Gh), v = tupV outs ∧ outs.length = g.n ∧ hAll G' w' g.res y g.rm (outs ++ lentV g.pm vals) (labs 0 (idsAll g.res g.rm)) ∧ Out G w G' w' := by
    intro h1
    unfold outFn at h1
    obtain ⟨hok, hout⟩ := chk_some h1
    obtain ⟨hok, hlen⟩ := and2 hok
    obtain ⟨hok, hap⟩ := and2 hok
    obtain ⟨hres, hnd⟩ := and2 hok
    have hres := List.all_eq_true.1 hres
    have hnd := nodup_nodupN.1 hnd
    have hap := apart_apartN.1 hap
    have hlen := beq_nat hlen
    -- the results
    have hxs : ∀ rs : List ResultVar, (∀ r ∈ rs, resOk tab σ' r = true) → ∃ xs : List Value, xs.length = rs.length ∧ (∀ i rv, rs[i]? = some rv → (resRun a' rv).run P w' = .ok (xs.getD i undef) w') ∧
        ∀ i, i < (rs.map (resVar tab σ')).length → (avR G' σ'.roots w' ((rs.map (resVar tab σ')).getD i .undef)).1 (xs.getD i undef) := by
      intro rs
      induction rs with
      | nil => intro _; exact ⟨[], rfl, fun i rv h => by simp at h, fun i hi => by simp at hi⟩
      | cons r rs ih =>
        intro hr
        obtain ⟨x, hx, hv⟩ := res_one hT h2 (hr r (by simp))
        obtain ⟨xs, l1, l2, l3⟩ := ih (fun r hr' => hr r (List.mem_cons_of_mem _ hr'))
        refine ⟨x :: xs, by simp [l1], fun i rv hi => ?_, fun i hi => ?_⟩
        · cases i with
          | zero => simp at hi; subst hi; exact hx
          | succ i => simpa using l2 i rv (by simpa using hi)
        · cases i with
          | zero => exact hv
          | succ i => exact l3 i (by simpa using hi)
    obtain ⟨xs, l1, l2, l3⟩ := hxs fn.results.toList hres
    -- what was lent
    obtain ⟨m1, m2⟩ := lent_av (G := G') (Rs := σ'.roots) (w := w') g.params g.pm as vals x G w _ hall g2 (fun i hi => (avR_evo h3 _).1 _ (g3 i (by omega)))
    refine ⟨h2.defers, tupV xs, results_run (fun rs e => by subst e; exact ⟨l1, l2⟩), xs, ?_⟩
    generalize hvs : fn.results.toList.map (resVar tab σ') ++ lentAVs (withTys g.params g.pm as) = vs at hout hnd hap
    have hvl : vs.length = (xs ++ lentV g.pm vals).length := by rw [← hvs]; simp [l1, m1]
    have hva : ∀ i, i < vs.length → (avR G' σ'.roots w' (vs.getD i .undef)).1 ((xs ++ lentV g.pm vals).getD i undef) := fun i hi => by
      rw [← hvs]
      have e0 : (fn.results.toList.map (resVar tab σ')).length = xs.length := by rw [List.length_map, l1]
      by_cases hlt : i < xs.length
      · have := l3 i (by rw [e0]; exact hlt)
        rw [List.getD_eq_getElem?_getD, List.getElem?_append_left (by rw [e0]; exact hlt), List.getD_eq_getElem?_getD, List.getElem?_append_left hlt]
        simpa [List.getD_eq_getElem?_getD] using this
      · have hi' : i - xs.length < (lentAVs (withTys g.params g.pm as)).length := by rw [hvl] at hi; simp at hi; omega
        have := m2 _ hi'
        rw [List.getD_eq_getElem?_getD, List.getElem?_append_right (by omega), e0, List.getD_eq_getElem?_getD, List.getElem?_append_right (by omega)]
        simpa [List.getD_eq_getElem?_getD] using this
    let τ : Nat → Nat → Lab := fun r s => match tauS σ'.roots (srcAll σ' g.res g.rm vs) (labs 0 (idsAll g.res g.rm)) r s with
      | some l => l
      | none => .free
    have hlk : ∀ r s, Lk G' w' (relab G' τ) w' (.of r s) (τ r s) := fun r s => lk_relab τ r s
    have hfr : Fr G' w' (relab G' τ) w' (fun _ => True) := fr_relab (fun r hr => absurd trivial hr)
    refine ⟨relab G' τ, rfl, by rw [l1, hlen], ?_, ⟨h3.os, h3.tape, h3.output, h3.size, ?_, ?_⟩⟩
    · refine out_all (tm := σ'.tmps) h2.roots hfr.free hout hvl hva (fun r hr s => ?_) ?_
      · have e : τ r s = .free := by
          show (match tauS σ'.roots (srcAll σ' g.res g.rm vs) (labs 0 (idsAll g.res g.rm)) r s with | some l => l | none => Lab.free) = _
          rw [tauS_none (hap r hr)]
        have := hlk r s
        rwa [e] at this
      · refine tgtL_tau hlk hnd (labs_zero 0 _) (fun r hr s => ?_)
        obtain ⟨l, hl⟩ := tauS_some (R := σ'.roots) (L := labs 0 (idsAll g.res g.rm)) (s := s) hr
        show _ = some (match tauS σ'.roots (srcAll σ' g.res g.rm vs) (labs 0 (idsAll g.res g.rm)) r s with | some l => l | none => Lab.free)
        rw [hl]
    · exact Lk.trans (G' := G') (w' := w') (L' := .free) h3.size (fun b o hb e => h3.free b o hb e) hfr.free
    · exact Lk.trans (G' := G') (w' := w') (L' := .hid) h3.size (fun b o hb e => h3.hid b o hb e) hfr.hid
  cases e with
  | normal => exact fin h1
  | ret => exact fin h1
  | exit j => cases h1
end
end Go.Proofs.YtpihkhknehadbaaGreat.Eng
