/- Regions whose order is drawn. No condition. -/
import Derived.Test.YtpihkhknehadbaaGreatEngCode
namespace Go.Proofs.YtpihkhknehadbaaGreat.Eng
open Go.RowKit
set_option linter.unusedVariables false
section
variable {P : Program} {ops : Array Oper} {Q : Exit → Act → World → Prop}
/-- does m wait for i -/
def Waits (ops : Array Oper) (i m : Nat) : Prop := ∃ n, waits ops.toList i n m = true
/-- what is listed has listed what it waits for -/
def Closed (ops : Array Oper) (listed : Array Bool) : Prop := ∀ m o, listed.getD m false = true → ops[m]? = some o → ∀ e ∈ o.after, Region.binds .any e = true → listed.getD e.on false = true
theorem Closed.waits {listed : Array Bool} (h : Closed ops listed) {i : Nat} : ∀ (n m : Nat), listed.getD m false = true → waits ops.toList i n m = true → listed.getD i false = true
  | 0, _, _, hw => by cases hw
  | n + 1, m, hm, hw => by
    simp only [Eng.waits] at hw
    cases ho : ops.toList[m]? with
    | none => rw [ho] at hw; cases hw
    | some o =>
      rw [ho] at hw
      have ho' : ops[m]? = some o := by simpa using ho
      obtain ⟨e, he, hb⟩ := List.any_eq_true.1 hw
      obtain ⟨hb1, hb2⟩ := and2 hb
      have hl := h m o hm ho' e (by simpa using he) hb1
      rcases Bool.or_eq_true_iff.1 hb2 with hb2 | hb2
      · rw [← beq_nat hb2]; exact hl
      · exact Closed.waits h n e.on hl hb2
/-- what is ready waits for nothing that is not listed -/
theorem Closed.ready {listed : Array Bool} (h : Closed ops listed) {i j : Nat} (hj : j ∈ Region.ready .any ops listed) (hw : Waits ops i j) : listed.getD i false = true := by
  obtain ⟨n, hw⟩ := hw
  obtain ⟨_, o, ho, hall⟩ := mem_ready.1 hj
  cases n with
  | zero => cases hw
  | succ n =>
    simp only [Eng.waits] at hw
    have ho' : ops.toList[j]? = some o := by simpa using ho
    rw [ho'] at hw
    obtain ⟨e, he, hb⟩ := List.any_eq_true.1 hw
    obtain ⟨hb1, hb2⟩ := and2 hb
    have hl := hall e (by simpa using he) hb1
    rcases Bool.or_eq_true_iff.1 hb2 with hb2 | hb2
    · rw [← beq_nat hb2]; exact hl
    · exact Closed.waits h n e.on hl hb2
theorem getD_bool {listed : Array Bool} {i : Nat} (h : listed.getD i true = false) : listed.getD i false = false := by
  by_cases hi : i < listed.size
  · simp [hi] at h ⊢; exact h
  · simp [hi] at h
theorem Closed.set {listed : Array Bool} (h : Closed ops listed) {j : Nat} (hj : j ∈ Region.ready .any ops listed) : Closed ops (listed.setIfInBounds j true) := by
  intro m o hm ho e he hb
  obtain ⟨_, oj, hoj, hall⟩ := mem_ready.1 hj
  by_cases hjm : j = m
  · subst hjm
    rw [hoj] at ho; cases ho
    exact getD_set_true (hall e he hb)
  · rw [_root_.Go.getD_set_ne false hjm] at hm
    exact getD_set_true (h m o hm ho e he hb)
/-- what must stand behind operation j for what was taken first -/
def Obl (ops : Array Oper) (pend : List (Nat × (World → Prop))) (listed : Array Bool) (j : Nat) (w w' : World) : Prop :=
  ∀ p ∈ pend, (∀ m, (listed.getD m false = true ∨ m = j) → m ∉ pend.map Prod.fst → ¬ Waits ops p.1 m) → p.2 w → p.2 w'
/-- whatever order is picked; pend: what was taken first -/
def wpAnyE (P : Program) (ops : Array Oper) (Q : Exit → Act → World → Prop) (pend : List (Nat × (World → Prop))) : Nat → Array Bool → Act → World → Prop
  | 0, listed, a, w => Region.ready .any ops listed = [] ∧ Q .normal a w
  | n + 1, listed, a, w => (Region.ready .any ops listed = [] → Q .normal a w) ∧
    ∀ j ∈ Region.ready .any ops listed, wpOp P ops Q j (fun a' w' => Obl ops pend listed j w w' ∧ wpAnyE P ops Q pend n (listed.setIfInBounds j true) a' w') a w
theorem wpAny_of_E {pend : List (Nat × (World → Prop))} : ∀ (n : Nat) (listed : Array Bool) (a : Act) (w : World), wpAnyE P ops Q pend n listed a w → wpAny P .any ops Q n listed a w
  | 0, _, _, _, h => h
  | n + 1, listed, a, w, h => ⟨h.1, fun j hj => wpOp_mono (fun a' w' h' => wpAny_of_E n _ a' w' h'.2) (h.2 j hj)⟩
theorem Obl.less {p : Nat × (World → Prop)} {pend : List (Nat × (World → Prop))} {listed : Array Bool} {j : Nat} {w w' : World} (h : Obl ops (p :: pend) listed j w w') : Obl ops pend listed j w w' :=
  fun q hq hm => h q (List.mem_cons_of_mem _ hq) (fun m hm' hn => hm m hm' (fun hx => hn (by simp only [List.map_cons, List.mem_cons]; exact .inr hx)))
theorem wpAnyE_less {p : Nat × (World → Prop)} {pend : List (Nat × (World → Prop))} : ∀ (n : Nat) (listed : Array Bool) (a : Act) (w : World), wpAnyE P ops Q (p :: pend) n listed a w → wpAnyE P ops Q pend n listed a w
  | 0, _, _, _, h => h
  | n + 1, listed, a, w, h => ⟨h.1, fun j hj => wpOp_mono (fun a' w' h' => ⟨h'.1.less, wpAnyE_less n _ a' w' h'.2⟩) (h.2 j hj)⟩
/-- an operation that reads is taken first -/
theorem wpAnyE_take {i : Nat} {oi : Oper} {x : Value} {S : World → Prop} {pend : List (Nat × (World → Prop))} (hi : ops[i]? = some oi) (hsel : ∀ (j : Nat) (o : Oper) cs b, ops[j]? = some o → o.op ≠ .select cs b)
    (hQ : ∀ c a w, Q (.panic c) (a.put oi.dst x) w → Q (.panic c) a w) :
    ∀ (fuel : Nat) (listed : Array Bool) (a : Act) (w : World), Closed ops listed → (∀ j oj, ops[j]? = some oj → j ≠ i → listed.getD j true = false → Waits ops i j ∨ oi.apart ops oj = true) →
      i ∈ Region.ready .any ops listed → YieldsIf P ops S oi x a → S w →
      wpAnyE P ops Q ((i, S) :: pend) fuel (listed.setIfInBounds i true) (a.put oi.dst x) w → wpAnyE P ops Q pend (fuel + 1) listed a w := by
  intro fuel
  induction fuel with
  | zero =>
    intro listed a w hcl hfree hr hy hS H
    refine ⟨fun h => (by rw [h] at hr; cases hr), fun j hj => ?_⟩
    by_cases hji : j = i
    · subst hji; exact hy.wpOp hi hS ⟨fun p _ _ h => h, wpAnyE_less _ _ _ _ H⟩
    · have := ready_mono hj hji
      rw [H.1] at this
      cases this
  | succ fuel ih =>
    intro listed a w hcl hfree hr hy hS H
    refine ⟨fun h => (by rw [h] at hr; cases hr), fun j hj => ?_⟩
    by_cases hji : j = i
    · subst hji; exact hy.wpOp hi hS ⟨fun p _ _ h => h, wpAnyE_less _ _ _ _ H⟩
    · have h1 := H.2 j (ready_mono hj hji)
      obtain ⟨hjun, oj, hoj, hall⟩ := mem_ready.1 hj
      have hiun : listed.getD i false = false := getD_bool (mem_ready.1 hr).1
      have hnw : ¬ Waits ops i j := fun hw => by rw [hcl.ready hj hw] at hiun; cases hiun
      have hap := (hfree j oj hoj hji hjun).resolve_left hnw
      have h2 := wpOp_putIf hoj hap (fun cs b => hsel i oi cs b hi) (fun cs b => hsel j oj cs b hoj) hQ hy h1
      refine wpOp_mono (fun a' w' h3 => ?_) h2
      obtain ⟨hy', hobl, h4⟩ := h3
      have hS' : S w' := hobl (i, S) (by simp) (fun m hm hn hw => by
        rcases hm with hm | hm
        · by_cases hmi : i = m
          · subst hmi; exact hn (by simp)
          · rw [_root_.Go.getD_set_ne false hmi] at hm
            obtain ⟨n, hw⟩ := hw
            rw [hcl.waits n m hm hw] at hiun; cases hiun
        · subst hm; exact hnw hw) hS
      refine ⟨fun p hp hm hpw => hobl p (List.mem_cons_of_mem _ hp) (fun m hm' hn hw => ?_) hpw, ?_⟩
      · have hmi : i ≠ m := fun e => by subst e; exact hn (by simp)
        refine hm m ?_ (fun hx => hn (by simp only [List.map_cons, List.mem_cons]; exact .inr hx)) hw
        rcases hm' with hm' | hm'
        · rw [_root_.Go.getD_set_ne false hmi] at hm'; exact .inl hm'
        · exact .inr hm'
      · refine ih (listed.setIfInBounds j true) a' w' (hcl.set hj) (fun k ok hk hki hun => ?_) (ready_mono hr (Ne.symm hji)) hy' hS' ?_
        · refine hfree k ok hk hki ?_
          by_cases hjk : j = k
          · subst hjk; exact hjun
          · rw [_root_.Go.getD_set_ne true hjk] at hun; exact hun
        · rw [Array.setIfInBounds_comm _ _ hji]; exact h4
theorem wpAnyE_done {pend : List (Nat × (World → Prop))} {listed : Array Bool} {a : Act} {w : World} (hr : Region.ready .any ops listed = []) (h : Q .normal a w) : ∀ n, wpAnyE P ops Q pend n listed a w
  | 0 => ⟨hr, h⟩
  | n + 1 => ⟨fun _ => h, by rw [hr]; simp⟩
/-! ### The evaluator's lists -/
theorem readyL_mem {listed : List Bool} {j : Nat} : ∀ (os : List Oper) (n : Nat), j ∈ readyL listed os n ↔ ∃ m o, j = n + m ∧ os[m]? = some o ∧ listed.getD j true = false ∧ ∀ e ∈ o.after, Region.binds .any e = true → listed.getD e.on false = true
  | [], n => by simp [readyL]
  | o :: os, n => by
    have ih := readyL_mem (listed := listed) (j := j) os (n + 1)
    have hcond : (!listed.getD n true && o.after.toList.all (fun e => !Region.binds .any e || listed.getD e.on false)) = true ↔ listed.getD n true = false ∧ ∀ e ∈ o.after, Region.binds .any e = true → listed.getD e.on false = true := by
      rw [Bool.and_eq_true, List.all_eq_true]
      refine and_congr (by simp) ⟨fun h e he hb => ?_, fun h e he => ?_⟩
      · have := h e (by simpa using he)
        rw [hb] at this; simpa using this
      · cases hb : Region.binds .any e with
        | false => simp
        | true => simpa using h e (by simpa using he) hb
    have shift : (∃ m o', j = n + 1 + m ∧ os[m]? = some o' ∧ listed.getD j true = false ∧ ∀ e ∈ o'.after, Region.binds .any e = true → listed.getD e.on false = true) ↔
        ∃ m o', j = n + (m + 1) ∧ os[m]? = some o' ∧ listed.getD j true = false ∧ ∀ e ∈ o'.after, Region.binds .any e = true → listed.getD e.on false = true :=
      ⟨fun ⟨m, o', e, h⟩ => ⟨m, o', by omega, h⟩, fun ⟨m, o', e, h⟩ => ⟨m, o', by omega, h⟩⟩
    have split : (∃ m o', j = n + m ∧ (o :: os)[m]? = some o' ∧ listed.getD j true = false ∧ ∀ e ∈ o'.after, Region.binds .any e = true → listed.getD e.on false = true) ↔
        (j = n ∧ listed.getD n true = false ∧ ∀ e ∈ o.after, Region.binds .any e = true → listed.getD e.on false = true) ∨
        ∃ m o', j = n + (m + 1) ∧ os[m]? = some o' ∧ listed.getD j true = false ∧ ∀ e ∈ o'.after, Region.binds .any e = true → listed.getD e.on false = true := by
      constructor
      · rintro ⟨m, o', e, ho, h1, h2⟩
        cases m with
        | zero => simp at ho; subst ho; exact .inl ⟨by omega, by rw [show j = n by omega] at h1; exact h1, h2⟩
        | succ m => exact .inr ⟨m, o', e, by simpa using ho, h1, h2⟩
      · rintro (⟨e, h1, h2⟩ | ⟨m, o', e, ho, h1, h2⟩)
        · exact ⟨0, o, by omega, rfl, by rw [e]; exact h1, h2⟩
        · exact ⟨m + 1, o', e, by simpa using ho, h1, h2⟩
    rw [split, ← shift, ← ih]
    simp only [readyL]
    cases hb : (!listed.getD n true && o.after.toList.all (fun e => !Region.binds .any e || listed.getD e.on false)) with
    | true => simp only [List.mem_cons]; exact or_congr ⟨fun e => ⟨e, hcond.1 hb⟩, fun h => h.1⟩ Iff.rfl
    | false => exact ⟨.inr, fun h => h.resolve_left (fun h => by rw [hcond.2 h.2] at hb; cases hb)⟩
theorem ready_mem {listed : List Bool} {j : Nat} : j ∈ readyL listed ops.toList 0 ↔ j ∈ Region.ready .any ops listed.toArray := by
  rw [readyL_mem, mem_ready]
  constructor
  · rintro ⟨m, o, e, ho, h1, h2⟩
    have : j = m := by omega
    subst this
    exact ⟨by simpa using h1, o, by simpa using ho, fun e he hb => by simpa using h2 e he hb⟩
  · rintro ⟨h1, o, ho, h2⟩
    exact ⟨j, o, by omega, by simpa using ho, by simpa using h1, fun e he hb => by simpa using h2 e he hb⟩
def unl : List Bool → Nat
  | [] => 0
  | b :: bs => (match b with | true => 0 | false => 1) + unl bs
theorem unl_set : ∀ (l : List Bool) (i : Nat), l.getD i true = false → unl (l.set i true) + 1 = unl l
  | [], i, h => by simp at h
  | b :: bs, 0, h => by simp at h; subst h; simp [unl]; omega
  | b :: bs, i + 1, h => by
    have := unl_set bs i (by simpa using h)
    simp only [List.set_cons_succ, unl]; omega
theorem allO_mem {R : Type} {r : R} {f : Nat → Option R} : ∀ {l : List Nat}, allO f l = some r → ∀ i ∈ l, f i = some r
  | [], h, i, hi => by cases hi
  | [j], h, i, hi => by rw [List.mem_singleton.1 hi]; exact h
  | j :: k :: l, h, i, hi => by
    have h : both (f j) (allO f (k :: l)) = some r := h
    unfold both at h
    split at h
    · rename_i e
      rcases List.mem_cons.1 hi with e' | hi
      · rw [e']; exact h
      · exact allO_mem (e ▸ h) i hi
    · cases h
theorem firstOf_mem {p : Nat → Bool} : ∀ {l : List Nat} {i : Nat}, firstOf p l = some i → i ∈ l ∧ p i = true
  | j :: l, i, h => by
    simp only [firstOf] at h
    split at h
    · rename_i e; cases h; exact ⟨by simp, e⟩
    · obtain ⟨h1, h2⟩ := firstOf_mem h
      exact ⟨List.mem_cons_of_mem _ h1, h2⟩
theorem noSel_spec {os : List Oper} (h : noSel os = true) : ∀ o ∈ os, ∀ cs b, o.op ≠ .select cs b := by
  induction os with
  | nil => intro o ho; cases ho
  | cons o os ih =>
    intro o' ho cs b e
    simp only [noSel] at h
    obtain ⟨h1, h2⟩ := and2 h
    rcases List.mem_cons.1 ho with e' | ho
    · rw [← e', e] at h1; simp [isSel] at h1
    · exact ih h2 o' ho cs b e
end
section
variable {P : Program} {tab : List (Nat × TI)} {soft : Bool} {Γ : List (Nat × Ent)} {R : Type} {r : R} {Q : Exit → Act → World → Prop} {ops : Array Oper}
variable {call : Nat → List AV → St → (AV → St → Option R) → Option R} {k : Nat}
/-- readers read -/
def ReadsOk (P : Program) (tab : List (Nat × TI)) (soft : Bool) (Γ : List (Nat × Ent)) (R : Type) (call : Nat → List AV → St → (AV → St → Option R) → Option R) (k : Nat) : Prop :=
  ∀ (o : Oper) (σ : St) (K : AV → St → Option R) (r : R), opKind Γ o ≤ 1 → evOp tab soft Γ call k o σ K = some r → ∀ (G : Gh) (a : Act) (w : World), Rel G σ a w → Reads P G σ w o a K r
/-- what was taken first stands, unless what waits for it has come -/
def PInv (ops : Array Oper) (pS : List (Nat × (World → Prop))) (pend : List (Nat × Nat)) (listed : List Bool) (G : Gh) (R : List Root) (w : World) : Prop :=
  ∀ p ∈ pS, listed.getD p.1 false = true ∧ ((∀ m, listed.getD m false = true → m ∉ pS.map Prod.fst → ¬ Waits ops p.1 m) →
    ∃ rs : List Nat, (∀ r ∈ rs, (p.1, r) ∈ pend) ∧ ∀ G' R' w', Evo G R w G' R' w' → (∀ r ∈ rs, sameR R R' r = true) → p.2 w')
theorem pendOk_mem {all : List Oper} {k : Nat} {R R' : List Root} : ∀ {pend : List (Nat × Nat)}, pendOk all k R R' pend = true → ∀ i r, (i, r) ∈ pend → waits all i all.length k = true ∨ sameR R R' r = true
  | (j, s) :: ps, h, i, r, hm => by
    simp only [pendOk] at h
    obtain ⟨h1, h2⟩ := and2 h
    rcases List.mem_cons.1 hm with e | hm
    · cases e; exact Bool.or_eq_true_iff.1 h1
    · exact pendOk_mem h2 i r hm
theorem getD_set_list {l : List Bool} {i m : Nat} {d : Bool} (h : i ≠ m) : (l.set i true).getD m d = l.getD m d := getD_set_ne h
theorem set_toArray (l : List Bool) (i : Nat) : (l.set i true).toArray = l.toArray.setIfInBounds i true := by simp
theorem draw_sound (hO : OpsOk P tab soft Γ R call k) (hRd : ReadsOk P tab soft Γ R call k) {D : List Nat} (hD : ∀ (i : Nat) (o : Oper), ops[i]? = some o → ∀ d, o.dst = some d → d ∈ D) {Q0 : Act → World → Prop} {σ0 : St} {G0 : Gh} {a0 : Act} {w0 : World} {K : St → Option R}
    (hK : ∀ σ' G' a' w', K σ' = some r → Rel G' σ' a' w' → Evo G0 σ0.roots w0 G' σ'.roots w' → Agree D a0 a' → Q0 a' w') :
    ∀ (n : Nat) (listed : List Bool) (pend : List (Nat × Nat)) (σ : St), evDraw tab soft Γ call k ops.toList n listed pend σ K = some r → ∀ (pS : List (Nat × (World → Prop))) (G : Gh) (a : Act) (w : World) (fuel : Nat), Rel G σ a w → Evo G0 σ0.roots w0 G σ.roots w → Agree D a0 a →
      Closed ops listed.toArray → PInv ops pS pend listed G σ.roots w → unl listed ≤ fuel → wpAnyE P ops (fun e a w => match e with | .normal => Q0 a w | _ => False) pS fuel listed.toArray a w := by
  intro n
  induction n with
  | zero =>
    intro listed pend σ h pS G a w fuel hR hE hA hcl hp hf
    simp only [evDraw] at h
    split at h
    · rename_i hr
      have hr' : Region.ready .any ops listed.toArray = [] := List.eq_nil_iff_forall_not_mem.2 (fun j hj => by
        have := ready_mem.2 hj
        rw [hr] at this; cases this)
      exact wpAnyE_done hr' (hK σ G a w h hR hE hA) fuel
    · cases h
  | succ n ih =>
    intro listed pend σ h pS G a w fuel hR hE hA hcl hp hf
    -- a step
    have step : ∀ i, i ∈ readyL listed ops.toList 0 → evStep tab soft Γ call k ops.toList i σ (fun σ' => chk (pendOk ops.toList i σ.roots σ'.roots pend) (evDraw tab soft Γ call k ops.toList n (listed.set i true) pend σ' K)) = some r →
        ∀ fuel', unl listed ≤ fuel' + 1 → wpOp P ops (fun e a w => match e with | .normal => Q0 a w | _ => False) i (fun a' w' => Obl ops pS listed.toArray i w w' ∧ wpAnyE P ops (fun e a w => match e with | .normal => Q0 a w | _ => False) pS fuel' (listed.toArray.setIfInBounds i true) a' w') a w := by
      intro i hi h fuel' hf
      have hir := ready_mem.1 hi
      obtain ⟨hiu, oi, hoi, hdep⟩ := mem_ready.1 hir
      have hiu' : listed.getD i true = false := by simpa using hiu
      have hiuf : listed.getD i false = false := by simpa using getD_bool hiu
      unfold evStep at h
      rw [show ops.toList[i]? = some oi by simpa using hoi] at h
      simp only at h
      refine evOne_sound hO hoi h hR (fun σ' G' x w' hK1 hR1 hE1 => ?_)
      obtain ⟨hpo, hK1⟩ := chk_some hK1
      have hpo := pendOk_mem hpo
      refine ⟨fun p hpm hpr hpw => ?_, ?_⟩
      · obtain ⟨hl, hkeep⟩ := hp p hpm
        obtain ⟨rs, h1, h2⟩ := hkeep (fun m hm hn => hpr m (.inl (by simpa using hm)) hn)
        refine h2 G' σ'.roots w' hE1 (fun r hr => ?_)
        rcases hpo _ _ (h1 r hr) with hw | hs
        · exfalso
          refine hpr i (.inr rfl) (fun hx => ?_) ⟨_, hw⟩
          obtain ⟨q, hq, e⟩ := List.mem_map.1 hx
          have := (hp q hq).1
          rw [e, hiuf] at this; cases this
        · exact hs
      · rw [← set_toArray]
        refine ih (listed.set i true) pend σ' hK1 pS G' _ w' fuel' hR1 (hE.trans hE1) (hA.trans (Agree.put (fun d hd => hD i oi hoi d hd)) (fun _ h => h) (fun _ h => h)) (by rw [set_toArray]; exact hcl.set hir) (fun p hpm => ?_) (by have := unl_set listed i hiu'; omega)
        obtain ⟨hl, hkeep⟩ := hp p hpm
        have hpi : i ≠ p.1 := fun e => by rw [← e, hiuf] at hl; cases hl
        refine ⟨by rw [getD_set_list hpi]; exact hl, fun hpr => ?_⟩
        have hnpi : i ∉ pS.map Prod.fst := fun hx => by
          obtain ⟨q, hq, e⟩ := List.mem_map.1 hx
          have := (hp q hq).1
          rw [e, hiuf] at this; cases this
        have hlt : i < listed.length := by
          by_cases hlt : i < listed.length
          · exact hlt
          · rw [List.getD_eq_getElem?_getD, List.getElem?_eq_none (by omega)] at hiu'; cases hiu'
        have hset : (listed.set i true).getD i false = true := getD_set_eq hlt
        obtain ⟨rs, h1, h2⟩ := hkeep (fun m hm hn => hpr m (by
          by_cases e : i = m
          · subst e; exact hset
          · rw [getD_set_list e]; exact hm) hn)
        refine ⟨rs, h1, fun G2 R2 w2 hE2 hs2 => h2 G2 R2 w2 (hE1.trans hE2) (fun r hr => ?_)⟩
        rcases hpo _ _ (h1 r hr) with hw | hs
        · exact absurd ⟨_, hw⟩ (hpr i hset hnpi)
        · exact sameR_trans hs (hs2 r hr)
    have hpos : ∀ i, i ∈ readyL listed ops.toList 0 → ∃ f', fuel = f' + 1 := fun i hi => by
      obtain ⟨hiu, _⟩ := mem_ready.1 (ready_mem.1 hi)
      have := unl_set listed i (by simpa using hiu)
      exact ⟨fuel - 1, by omega⟩
    have steps : (∀ i ∈ readyL listed ops.toList 0, evStep tab soft Γ call k ops.toList i σ (fun σ' => chk (pendOk ops.toList i σ.roots σ'.roots pend) (evDraw tab soft Γ call k ops.toList n (listed.set i true) pend σ' K)) = some r) → (∃ i, i ∈ readyL listed ops.toList 0) →
        wpAnyE P ops (fun e a w => match e with | .normal => Q0 a w | _ => False) pS fuel listed.toArray a w := by
      rintro hall ⟨i, hi⟩
      obtain ⟨f', hf'⟩ := hpos i hi
      subst hf'
      refine ⟨fun he => ?_, fun j hj => step j (ready_mem.2 hj) (hall j (ready_mem.2 hj)) f' hf⟩
      have := ready_mem.1 hi
      rw [he] at this; cases this
    simp only [evDraw] at h
    split at h
    · rename_i hr
      have hr' : Region.ready .any ops listed.toArray = [] := List.eq_nil_iff_forall_not_mem.2 (fun j hj => by
        have := ready_mem.2 hj
        rw [hr] at this; cases this)
      exact wpAnyE_done hr' (hK σ G a w h hR hE hA) fuel
    · rename_i i hr
      exact steps (fun j hj => by rw [hr] at hj; rw [List.mem_singleton.1 hj]; exact h) ⟨i, by rw [hr]; simp⟩
    · rename_i hr1 hr2
      split at h
      · rename_i i hfi
        obtain ⟨hi, hfo⟩ := firstOf_mem hfi
        obtain ⟨f', hf'⟩ := hpos i hi
        subst hf'
        have hir := ready_mem.1 hi
        obtain ⟨hiu, oi, hoi, hdep⟩ := mem_ready.1 hir
        have hiu' : listed.getD i true = false := by simpa using hiu
        have hiuf : listed.getD i false = false := by simpa using getD_bool hiu
        have hoil : ops.toList[i]? = some oi := by simpa using hoi
        unfold firstOk at hfo
        rw [hoil] at hfo
        simp only at hfo
        obtain ⟨hfo, hfree⟩ := and2 hfo
        obtain ⟨hkind, hns⟩ := and2 hfo
        have hkind := ble_nat hkind
        have hns := noSel_spec hns
        have hsel : ∀ (j : Nat) (o : Oper) cs b, ops[j]? = some o → o.op ≠ .select cs b := fun j o cs b ho => hns o (by have := Array.mem_of_getElem? ho; simpa using this) cs b
        have hfree' : ∀ j oj, ops[j]? = some oj → j ≠ i → listed.toArray.getD j true = false → Waits ops i j ∨ oi.apart ops oj = true := by
          intro j oj hoj hji hju
          have hlt : j < ops.toList.length := by
            have := (Array.getElem?_eq_some_iff.1 hoj).1; simpa using this
          have hj := List.all_eq_true.1 hfree j (List.mem_range.2 hlt)
          rw [show ops.toList[j]? = some oj by simpa using hoj] at hj
          rcases Bool.or_eq_true_iff.1 hj with hj | hj
          · rcases Bool.or_eq_true_iff.1 hj with hj | hj
            · rcases Bool.or_eq_true_iff.1 hj with hj | hj
              · exact absurd (beq_nat hj) hji
              · have : listed.getD j true = false := by simpa using hju
                rw [this] at hj; cases hj
            · exact .inl ⟨_, hj⟩
          · right
            have := (and2 hj).1
            simpa using this
        have hlt : i < listed.length := by
          by_cases hlt : i < listed.length
          · exact hlt
          · rw [List.getD_eq_getElem?_getD, List.getElem?_eq_none (by omega)] at hiu'; cases hiu'
        have hset : (listed.set i true).getD i false = true := getD_set_eq hlt
        unfold evStep at h
        rw [hoil] at h
        simp only at h
        -- what was taken before stands on
        have old : ∀ (S : World → Prop) (pend' : List (Nat × Nat)), ∀ p ∈ pS, (listed.set i true).getD p.1 false = true ∧ ((∀ m, (listed.set i true).getD m false = true → m ∉ ((i, S) :: pS).map Prod.fst → ¬ Waits ops p.1 m) →
            ∃ rs : List Nat, (∀ r ∈ rs, (p.1, r) ∈ pend' ++ pend) ∧ ∀ G' R' w', Evo G σ.roots w G' R' w' → (∀ r ∈ rs, sameR σ.roots R' r = true) → p.2 w') := by
          intro S pend' p hpm
          obtain ⟨hl, hkeep⟩ := hp p hpm
          have hpi : i ≠ p.1 := fun e => by rw [← e, hiuf] at hl; cases hl
          refine ⟨by rw [getD_set_list hpi]; exact hl, fun hpr => ?_⟩
          obtain ⟨rs, h1, h2⟩ := hkeep (fun m hm hn => by
            have hmi : i ≠ m := fun e => by subst e; rw [hiuf] at hm; cases hm
            refine hpr m (by rw [getD_set_list hmi]; exact hm) (fun hx => ?_)
            simp only [List.map_cons, List.mem_cons] at hx
            rcases hx with e | hx
            · exact hmi e.symm
            · exact hn hx)
          exact ⟨rs, fun r hr => List.mem_append_right _ (h1 r hr), h2⟩
        have hAi : ∀ x, Agree D a0 (a.put oi.dst x) := fun x => hA.trans (Agree.put (fun d hd => hD i oi hoi d hd)) (fun _ h => h) (fun _ h => h)
        rcases evOne_cases h hR with ⟨hw, σ1, hR1, hro, hget, h⟩ | ⟨hw, σ1, hR1, hro, h⟩
        · obtain ⟨v, x, hKv, hrd, hav⟩ := hRd oi σ1 _ r hkind h G a w hR1
          have hrr : readRoots σ1 oi = readRoots σ oi := by
            have he : ∀ y, σ1.eval y = σ.eval y := fun y => by
              cases y with
              | tmp t => exact hget t
              | const v => cases v <;> rfl
              | _ => rfl
            unfold readRoots
            cases oi.op <;> first | rfl | simp only [he]
          refine wpAnyE_take (S := fun w' => (execOp a.eval oi).run P w' = .ok (.value x) w') hoi hsel (fun c a w h => h.elim) f' listed.toArray a w hcl hfree' hir (.inl ⟨hw, fun w h => h⟩) hrd.1 ?_
          rw [← set_toArray]
          have hRn := hR1.put hav oi.dst
          have hrn : (σ1.put oi.dst v).roots = σ.roots := by cases oi.dst <;> exact hro
          refine ih (listed.set i true) _ _ hKv _ G _ w f' hRn (by rw [hrn]; exact hE) (hAi x) (by rw [set_toArray]; exact hcl.set hir) (fun p hpm => ?_) (by have := unl_set listed i hiu'; omega)
          rw [hrn]
          rcases List.mem_cons.1 hpm with e | hpm
          · subst e
            refine ⟨hset, fun _ => ⟨readRoots σ oi, fun r hr => List.mem_append_left _ ?_, fun G' R' w' hE' hs => ?_⟩⟩
            · unfold pendOf
              rw [hoil]
              exact List.mem_map_of_mem (f := fun r => (i, r)) hr
            · refine hrd.2 G' R' w' (by rw [hro]; exact hE') (fun r hr => ?_)
              rw [hro]; exact hs r (hrr ▸ hr)
          · exact old _ _ p hpm
        · refine wpAnyE_take (S := fun _ => True) hoi hsel (fun c a w h => h.elim) f' listed.toArray a w hcl hfree' hir (.inr ⟨hw, rfl⟩) trivial ?_
          rw [← set_toArray]
          have hRn := hR1.put (v := .tup .nil) (x := undef) ⟨[], rfl, rfl⟩ oi.dst
          have hrn : (σ1.put oi.dst (.tup .nil)).roots = σ.roots := by cases oi.dst <;> exact hro
          refine ih (listed.set i true) _ _ h _ G _ w f' hRn (by rw [hrn]; exact hE) (hAi _) (by rw [set_toArray]; exact hcl.set hir) (fun p hpm => ?_) (by have := unl_set listed i hiu'; omega)
          rw [hrn]
          rcases List.mem_cons.1 hpm with e | hpm
          · subst e
            exact ⟨hset, fun _ => ⟨[], fun r hr => (by cases hr), fun _ _ _ _ _ => trivial⟩⟩
          · exact old _ _ p hpm
      · rename_i hfi
        have hne : ∃ i, i ∈ readyL listed ops.toList 0 := by
          cases hrl : readyL listed ops.toList 0 with
          | nil => exact absurd hrl hr1
          | cons i is => exact ⟨i, by simp⟩
        exact steps (fun j hj => allO_mem h j hj) hne
/-- a region whose order is drawn -/
theorem evDraw_sound (hm : P.follows .mixedOrders = true) (hO : OpsOk P tab soft Γ R call k) (hRd : ReadsOk P tab soft Γ R call k) : ∀ id ops, ∀ (σ : St) (K : St → Option R) (r : R), evDraw tab soft Γ call k ops.toList ops.toList.length (ops.toList.map fun _ => false) [] σ K = some r → ∀ (G : Gh) (a : Act) (w : World) (Q : Exit → Act → World → Prop),
      Rel G σ a w → (∀ σ' G' a' w', K σ' = some r → Rel G' σ' a' w' → Evo G σ.roots w G' σ'.roots w' → Agree (dsts (.region id ops true)) a a' → Q .normal a' w') → (Code.region id ops true).wp P Q a w := by
  intro id ops σ K r h G a w Q hR hK
  have hD : ∀ (i : Nat) (o : Oper), ops[i]? = some o → ∀ d, o.dst = some d → d ∈ dsts (.region id ops true) := fun i o ho d hd => List.mem_filterMap.2 ⟨o, by have := Array.mem_of_getElem? ho; simpa using this, hd⟩
  have hfalse : ∀ m, (ops.toList.map fun _ => false).getD m false = false := fun m => by
    rw [List.getD_eq_getElem?_getD, List.getElem?_map]; cases ops.toList[m]? <;> rfl
  have := draw_sound (Q0 := Q .normal) hO hRd hD (σ0 := σ) (G0 := G) (a0 := a) (w0 := w) hK ops.toList.length (ops.toList.map fun _ => false) [] σ h [] G a w.drew ops.size { roots := RelR.drew hR.roots, defers := hR.defers, size := hR.size, tmps := fun t => (avR_evo (Evo.drew _ _ _) _).1 _ (hR.tmps t) } (Evo.drew _ _ _) (Agree.refl _ _)
    (fun m o hm => by
      have hm : (ops.toList.map fun _ => false).getD m false = true := by simpa using hm
      rw [hfalse] at hm; cases hm) (fun p hp => by cases hp) (by
      have : ∀ l : List Oper, unl (l.map fun _ => false) = l.length := by
        intro l
        induction l with
        | nil => rfl
        | cons o os ih => simp only [List.map_cons, unl, ih, List.length_cons]; omega
      rw [this]; simp)
  refine wp_mono (wp_region_any hm (wpAny_of_E (pend := []) _ _ _ _ ?_)) (fun e a w h => ?_) (Q := fun e a w => match e with | .normal => Q .normal a w | _ => False)
  · have e : (ops.toList.map fun _ => false).toArray = Array.replicate ops.size false := by
      apply Array.ext'
      simp [List.map_const']
    rw [← e]
    exact this
  · cases e <;> first | exact h | exact h.elim
end
end Go.Proofs.YtpihkhknehadbaaGreat.Eng
