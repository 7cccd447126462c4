/- Calls, as operations: all operations. No condition. -/
import Derived.Test.YtpihkhknehadbaaGreatEngRead
import Derived.Test.YtpihkhknehadbaaGreatEngMk
import Derived.Test.YtpihkhknehadbaaGreatEngRen
namespace Go.Proofs.YtpihkhknehadbaaGreat.Eng
open Go.RowKit
set_option linter.unusedVariables false
/-- a function with a body -/
def FnHas (P : Program) (f : Nat) : Prop := ∃ fn : Func, P.funcs[f]? = some fn ∧ (fn.name == "runtime.NumGoroutine") = false ∧ fn.body.isNone = false
section
variable {P : Program} {tab : List (Nat × TI)} {soft : Bool} {Γ : List (Nat × Ent)} {R : Type}
variable {call : Nat → List AV → St → (AV → St → Option R) → Option R} {k : Nat}
/-- what a call must come to -/
def CallsTo (P : Program) (f : Nat) (as : List AV) (σ : St) (K : AV → St → Option R) (r : R) : Prop :=
  ∀ (G : Gh) (w : World) (args : List Value), RelR G σ.roots w → args.length = as.length → (∀ i, i < as.length → (avR G σ.roots w (as.getD i .undef)).1 (args.getD i undef)) →
    Calls P f args.toArray w (fun | .returned x, w' => ∃ v R' G', K v ⟨σ.tmps, R'⟩ = some r ∧ RelR G' R' w' ∧ (avR G' R' w' v).1 x ∧ Evo G σ.roots w G' R' w' | _, _ => False)
theorem avs_list {G : Gh} {Rs : List Root} {w : World} : ∀ (cs : AV) (vs : List Value), (avR G Rs w cs).2 vs → vs.length = cs.toList.length ∧ ∀ i, i < cs.toList.length → (avR G Rs w (cs.toList.getD i .undef)).1 (vs.getD i undef) := fun cs vs h => by
  obtain ⟨h1, h2⟩ := avs_get cs vs h
  exact ⟨h1, fun i hi => h2 i (by omega)⟩
theorem op_call {o : Oper} {σ : St} {K : AV → St → Option R} {r : R} {G : Gh} {a : Act} {w : World} {next : Act → World → Prop} {Q : Exit → Act → World → Prop} {fo : Operand} {args : Array Operand} {Ts : Array TypeId} {f : Nat} {caps : AV}
    (ho : o.op = .call ⟨.value fo, args, Ts⟩) (hfo : σ.eval fo = .fn f caps) (hf : FnHas P f) (hR : Rel G σ a w) (hn : Nxt false G σ w a o.dst K r next) (h : CallsTo P f (args.toList.map σ.eval ++ caps.toList) σ K r) : o.wp P a w next Q := by
  have hv := hR.eval fo
  rw [hfo] at hv
  obtain ⟨vs, ev, hvs⟩ := hv
  obtain ⟨l1, l2⟩ := avs_list caps vs hvs
  obtain ⟨fn, f1, f2, f3⟩ := hf
  have hrun : (execOp a.eval o).run P w = .ok (.enter f (args.map a.eval ++ vs.toArray)) w := by
    have f2' : ¬ fn.name = "runtime.NumGoroutine" := by simpa using f2
    have f3' : ¬ fn.body = none := fun e => by rw [e] at f3; cases f3
    simp [execOp, ho, resolve, Deferred.ofValue, ev, invoke, callFunc, f1, f2', f3']
  unfold Oper.wp
  rw [hrun]
  have := h G w (args.toList.map a.eval ++ vs) hR.roots (by simp [l1]) (fun i hi => by
    by_cases hlt : i < args.toList.length
    · rw [List.getD_eq_getElem?_getD, List.getElem?_append_left (by simpa using hlt), List.getD_eq_getElem?_getD, List.getElem?_append_left (by simpa using hlt), List.getElem?_map, List.getElem?_map, List.getElem?_eq_getElem hlt]
      exact hR.eval _
    · have hge : args.toList.length ≤ i := by omega
      rw [List.getD_eq_getElem?_getD, List.getElem?_append_right (by simpa using hge), List.getD_eq_getElem?_getD, List.getElem?_append_right (by simpa using hge)]
      simp only [List.length_map, List.length_append] at hi ⊢
      have := l2 (i - args.toList.length) (by omega)
      rw [List.getD_eq_getElem?_getD, List.getD_eq_getElem?_getD] at this
      exact this)
  have ea : (args.toList.map a.eval ++ vs).toArray = args.map a.eval ++ vs.toArray := by apply Array.ext'; simp
  rw [ea] at this
  show Calls P f _ w _
  refine this.mono (fun e w' he => ?_)
  cases e with
  | returned x =>
    obtain ⟨v, R', G', h1, h2, h3, h4⟩ := he
    exact hn v R' G' x w' h1 h2 h3 h4 (fun e => by cases e)
  | _ => exact he.elim
/-- all operations -/
theorem ops_ok (hT : TabOk P tab) (hΓ : ∀ f e, look Γ f = some e → (∃ g, e = .sig g) → FnHas P f) (hG : ∀ f g, look Γ f = some (.sig g) → ∀ as σ K (r : R), callSig soft k g as σ K = some r → CallsTo P f as σ K r)
    (hC : ∀ f as σ K (r : R), call f as σ K = some r → CallsTo P f as σ K r ∧ FnHas P f) : OpsOk P tab soft Γ R call k := by
  intro o σ K r h G a w next Q hR hn
  have rd : Reads P G σ w o a K r → o.wp P a w next Q := fun hr => hr.wp hR.roots hn
  by_cases hk : opKind Γ o ≤ 1
  · exact rd (reads_ok hT o σ K r hk h G a w hR)
  · cases hop : o.op with
    | assign x => exact rd (op_assign hop hR h)
    | alloc T => exact op_alloc hT hop hR hn h
    | box T x => exact op_box hT hop hR hn h
    | store T x v => exact op_store hT hop hR hn h
    | buildSlice T n ps => exact op_buildSlice hT hop hR hn h
    | makeSlice T l c => exact op_makeSlice hT hop hR hn h
    | call c =>
      obtain ⟨ca, args, Ts⟩ := c
      simp only [evOp, hop] at h
      cases ca with
      | builtin b =>
        simp only at h
        cases b with
        | append =>
          have hl : ∃ x y, args.toList = [x, y] := by
            have : (args.toList.map σ.eval).length = 2 := by
              generalize args.toList.map σ.eval = l at h
              unfold evBuiltin at h
              split at h <;> first | rfl | (rename_i hb _; cases hb; done) | (cases h; done) | contradiction
            exact len2 (by simpa using this)
          obtain ⟨x, y, hx⟩ := hl
          have e : args = #[x, y] := by apply Array.ext'; simpa using hx
          subst e
          exact op_append hT hop hR hn h
        | clear =>
          have hl : ∃ x, args.toList = [x] := by
            have : (args.toList.map σ.eval).length = 1 := by
              generalize args.toList.map σ.eval = l at h
              cases l with
              | nil => cases h
              | cons v l => cases l with
                | nil => rfl
                | cons _ _ => first | (cases v <;> cases h; done) | (unfold evBuiltin at h; split at h <;> first | rfl | (cases h; done) | contradiction)
            exact len1 (by simpa using this)
          obtain ⟨x, hx⟩ := hl
          have e : args = #[x] := by apply Array.ext'; simpa using hx
          subst e
          exact op_clear hT hop hR hn h
        | len => simp [opKind, hop] at hk
        | max => simp [opKind, hop] at hk
        | min => simp [opKind, hop] at hk
        | _ => unfold evBuiltin at h; split at h <;> first | (rename_i hb _; cases hb; done) | (cases h; done) | contradiction
      | value fo =>
        simp only at h
        split at h
        · rename_i f caps hfo
          split at h
          · rename_i g hg
            exact op_call hop hfo (hΓ f _ hg ⟨g, rfl⟩) hR hn (hG f g hg _ _ _ _ h)
          · obtain ⟨h1, h2⟩ := hC f _ _ _ _ h
            exact op_call hop hfo h2 hR hn h1
        · cases h
      | _ => cases h
    | _ => first | (exfalso; apply hk; simp [opKind, hop]; done) | (simp only [evOp, hop] at h; cases h; done)
end
end Go.Proofs.YtpihkhknehadbaaGreat.Eng
