/- All that reads. No condition. -/
import Derived.Test.YtpihkhknehadbaaGreatEngDraw
namespace Go.Proofs.YtpihkhknehadbaaGreat.Eng
open Go.RowKit
set_option linter.unusedVariables false
section
variable {P : Program} {tab : List (Nat × TI)} {soft : Bool} {Γ : List (Nat × Ent)} {R : Type}
variable {call : Nat → List AV → St → (AV → St → Option R) → Option R} {k : Nat}
theorem len1 {α : Type} {l : List α} (h : l.length = 1) : ∃ x, l = [x] := by
  cases l with
  | nil => simp at h
  | cons x l => cases l with
    | nil => exact ⟨x, rfl⟩
    | cons _ _ => simp at h
theorem len2 {α : Type} {l : List α} (h : l.length = 2) : ∃ x y, l = [x, y] := by
  cases l with
  | nil => simp at h
  | cons x l => cases l with
    | nil => simp at h
    | cons y l => cases l with
      | nil => exact ⟨x, y, rfl⟩
      | cons _ _ => simp at h
theorem bin_reads (hT : TabOk P tab) {o : Oper} {σ : St} {K : AV → St → Option R} {r : R} {G : Gh} {a : Act} {w : World} {op : BinOp} {T T' : Nat} {x y : Operand} (ho : o.op = .binOp op T x y T') (h : evOp tab soft Γ call k o σ K = some r) (hR : Rel G σ a w) : Reads P G σ w o a K r := by
  by_cases he : y = .const (.slice none 0 0) ∧ (op = .eql ∨ op = .neq)
  · obtain ⟨e, e' | e'⟩ := he
    · subst e; subst e'; exact op_nilEql hT ho hR h
    · subst e; subst e'; exact op_nilNeq hT ho hR h
  · refine op_binop hT ho hR ?_
    unfold evOp at h
    rw [ho] at h
    split at h
    all_goals first
      | contradiction
      | (simp only [Op.binOp.injEq] at *; done)
      | skip
    all_goals (rename_i hh; first | (simp only [Op.binOp.injEq] at hh; obtain ⟨h1, h2, h3, h4, h5⟩ := hh; subst h1; subst h2; subst h3; subst h4; first | exact h | exact absurd ⟨rfl, .inl rfl⟩ he | exact absurd ⟨rfl, .inr rfl⟩ he) | skip)
theorem reads_ok (hT : TabOk P tab) : ReadsOk P tab soft Γ R call k := by
  intro o σ K r hk h G a w hR
  cases hop : o.op with
  | load T x =>
    simp only [evOp, hop] at h
    split at h
    · rename_i i hi
      exact op_load hT hop hi hR h
    · cases h
  | move x => exact op_move hop hR h
  | pick c x y => exact op_pick hop hR h
  | binOp op T x y T' => exact bin_reads hT hop h hR
  | unOp u T x =>
    cases u with
    | not => exact op_not hop hR h
    | neg => exact op_neg hop hR h
    | _ => simp only [evOp, hop] at h; cases h
  | convert S D x => exact op_convert hT hop hR h
  | fieldAddr T x f => exact op_fieldAddr hT hop hR h
  | field T x f => exact op_field hT hop hR h
  | indexAddr T x ix => exact op_index hT hop hR h
  | extract x n => exact op_extract hop hR h
  | nilCheck x => exact op_nilCheck hop hR h
  | build T ps => exact op_build hT hop hR h
  | makeFunc f fs cs =>
    cases f with
    | func f => exact op_makeFunc hop hR h
    | _ => simp only [evOp, hop] at h; cases h
  | slice T x lo hi mx =>
    cases mx with
    | none =>
      cases lo with
      | none =>
        cases hi with
        | some y => exact op_sliceHi hT hop hR h
        | none =>
          exfalso
          simp only [evOp, hop, Option.map_none] at h
          repeat' split at h
          all_goals first | contradiction | (cases h; done) | (obtain ⟨_, h⟩ := chk_some h; cases h; done) | skip
      | some z =>
        cases hi with
        | none => exact op_sliceLo hT hop hR h
        | some y =>
          exfalso
          simp only [evOp, hop, Option.map_some] at h
          repeat' split at h
          all_goals first | contradiction | (cases h; done) | (obtain ⟨_, h⟩ := chk_some h; cases h; done) | skip
    | some m =>
      have h0 := h
      unfold evOp at h
      rw [hop] at h
      split at h
      all_goals first
        | contradiction
        | skip
      all_goals (rename_i hh; first | (simp only [Op.slice.injEq] at hh; obtain ⟨rfl, rfl, rfl, rfl, h5⟩ := hh; cases h5; done) | skip)
      all_goals
        simp only [Op.slice.injEq] at hh
        obtain ⟨rfl, rfl, rfl, rfl, h5⟩ := hh
        obtain rfl := Option.some.inj h5
        exact op_sliceZero hT hop hR h0
  | call c =>
    obtain ⟨ca, args, Ts⟩ := c
    cases ca with
    | builtin b =>
      cases b with
      | len =>
        have h' := h
        simp only [evOp, hop] at h'
        have hl : ∃ x, args.toList = [x] := by
          have : (args.toList.map σ.eval).length = 1 := by
            generalize args.toList.map σ.eval = l at h'
            cases l with
            | nil => cases h'
            | cons v l => cases l with
              | nil => rfl
              | cons _ _ => cases h'
          exact len1 (by simpa using this)
        obtain ⟨x, hx⟩ := hl
        have e : args = #[x] := by apply Array.ext'; simpa using hx
        subst e
        exact op_len hT hop hR h
      | max =>
        have h' := h
        simp only [evOp, hop] at h'
        have hl : ∃ x y, args.toList = [x, y] := by
          have : (args.toList.map σ.eval).length = 2 := by
            generalize args.toList.map σ.eval = l at h'
            unfold evBuiltin at h'
            split at h' <;> first | rfl | (rename_i hb _; cases hb; done) | (cases h'; done) | contradiction
          exact len2 (by simpa using this)
        obtain ⟨x, y, hx⟩ := hl
        have e : args = #[x, y] := by apply Array.ext'; simpa using hx
        subst e
        exact op_max hop hR h'
      | min =>
        have h' := h
        simp only [evOp, hop] at h'
        have hl : ∃ x y, args.toList = [x, y] := by
          have : (args.toList.map σ.eval).length = 2 := by
            generalize args.toList.map σ.eval = l at h'
            unfold evBuiltin at h'
            split at h' <;> first | rfl | (rename_i hb _; cases hb; done) | (cases h'; done) | contradiction
          exact len2 (by simpa using this)
        obtain ⟨x, y, hx⟩ := hl
        have e : args = #[x, y] := by apply Array.ext'; simpa using hx
        subst e
        exact op_min hop hR h'
      | _ => simp [opKind, hop] at hk
    | value f =>
      cases f with
      | func f =>
        simp only [opKind, hop] at hk
        split at hk
        · split at hk <;> omega
        · omega
      | _ => simp [opKind, hop] at hk
    | _ => simp [opKind, hop] at hk
  | _ => simp [opKind, hop] at hk
end
end Go.Proofs.YtpihkhknehadbaaGreat.Eng
