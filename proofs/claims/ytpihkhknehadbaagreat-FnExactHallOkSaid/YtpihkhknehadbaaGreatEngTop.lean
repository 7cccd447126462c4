/- A function's contract out of its check and its callees' contracts. No condition. -/
import Derived.Test.YtpihkhknehadbaaGreatEngDone
import Derived.Test.YtpihkhknehadbaaGreatEngTab
namespace Go.Proofs.YtpihkhknehadbaaGreat.Eng
open Go.RowKit
set_option linter.unusedVariables false
/-- what is known of a function's callees -/
def GOk (P : Program) : List (Nat × Ent) → Prop
  | [] => True
  | (f, e) :: l => (match e with | .sig g => FnOk P f g | .inl fn H => P.funcs[f]? = some fn ∧ (fn.name == "runtime.NumGoroutine") = false) ∧ GOk P l
theorem GOk.get {P : Program} : ∀ {Γ : List (Nat × Ent)}, GOk P Γ → ∀ f e, look Γ f = some e → (match e with | .sig g => FnOk P f g | .inl fn H => P.funcs[f]? = some fn ∧ (fn.name == "runtime.NumGoroutine") = false)
  | [], _, f, e, h => by cases h
  | (f', e') :: l, ⟨h1, h2⟩, f, e, h => by
    simp only [look] at h
    split at h
    · rename_i hb
      cases h
      rw [← beq_nat hb]; exact h1
    · exact GOk.get h2 f e h
theorem fn_ok {P : Program} {tab : List (Nat × TI)} {soft : Bool} {Γ : List (Nat × Ent)} {fid : Nat} {fn : Func} {g : Sig} {H : List Hint} (heq : ∀ k x, evFn tab soft Γ H fn g k x = g.f k x) (hfn : P.funcs[fid]? = some fn) (hT : TabOk P tab) (hm : P.follows .mixedOrders = true) (hnm : (fn.name == "runtime.NumGoroutine") = false)
    (hb : fn.body.isSome = true) (hG : GOk P Γ) : FnOk P fid g := by
  obtain ⟨c, hc⟩ := Option.isSome_iff_exists.1 hb
  refine evFn_ok hT hm (fun f e h => ?_) (fun R f g h k as σ K r hk => ?_) hfn hnm hc heq
  · have := hG.get f e h
    cases e with
    | sig g => exact this.1
    | inl fn H => exact this
  · exact callSig_ok (hG.get f _ h) hk
end Go.Proofs.YtpihkhknehadbaaGreat.Eng
