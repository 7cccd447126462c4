/- The table of types, checked by one computation. No condition. -/
import Derived.Test.YtpihkhknehadbaaGreatEngOps
namespace Go.Proofs.YtpihkhknehadbaaGreat.Eng
open Go.RowKit
set_option linter.unusedVariables false
def zerosB : List Value → Ty → Bool
  | [], .nil => true
  | .bool b :: vs, .cons .bool ts => !b && zerosB vs ts
  | .int j n :: vs, .cons (.int k) ts => decide (j = k) && decide (n = 0) && zerosB vs ts
  | .string s :: vs, .cons .str ts => (match s.data.toList with | [] => true | _ => false) && zerosB vs ts
  | .slice none l c :: vs, .cons (.slice _) ts => Nat.beq l 0 && Nat.beq c 0 && zerosB vs ts
  | _, _ => false
def fldsB (P : Program) : List Field → List (Nat × Nat × Bool) → Bool
  | [], [] => true
  | fl :: fs, off :: os => Nat.beq fl.offset off.1 && (match P.info? fl.type with | some I => Nat.beq I.size off.2.1 && Nat.blt 0 off.2.1 | none => false) && (off.2.2 || Nat.beq off.2.1 1) &&
      (match P.underlying fl.type with | some d => aggD d == off.2.2 | none => false) && fldsB P fs os
  | _, _ => false
def eqFB (P : Program) : Ty → List Field → Nat → Bool
  | .nil, [], _ => true
  | .cons .bool ts, f :: fs, off => !(f.name == "_") && Nat.beq f.offset off && (match P.underlying f.type with | some .bool => true | _ => false) && eqFB P ts fs (off + 1)
  | .cons (.int k) ts, f :: fs, off => !(f.name == "_") && Nat.beq f.offset off && (match P.underlying f.type with | some (.int j) => decide (j = k) | _ => false) && eqFB P ts fs (off + 1)
  | _, _, _ => false
def oneB' (i : TI) (d : TypeDesc) : Bool := match i.cells, d with
  | .cons .bool .nil, .bool => true
  | .cons (.int k) .nil, .int j => decide (j = k)
  | .cons (.slice _) .nil, .slice e => Nat.beq e i.elem
  | .cons .str .nil, .string => true
  | _, _ => false
def tyB (P : Program) (T : Nat) (i : TI) : Bool :=
  (match P.info? T with | some I => Nat.beq I.size i.cells.size && Nat.ble I.bytes 512 && (match I.zero with | some z => zerosB z.cells.toList i.cells | none => false) | none => false) &&
  (i.cells.flat && !Nat.beq i.cells.size 0 &&
  (match P.underlying T with
    | some d => (aggD d == i.agg) && (match i.agg with
      | true => (match d with | .struct fs => fldsB P fs.toList i.offs | _ => false) && (!i.eq || (!P.stoodInHeld T && (!P.eqGuardType P.depth T && eqFB P i.cells (P.fieldsOf T).toList 0)))
      | false => Nat.beq i.cells.size 1 && i.offs.isEmpty && oneB' i d)
    | none => false))
def tabB (P : Program) : List (Nat × TI) → Bool
  | [] => true
  | (T, i) :: l => tyB P T i && tabB P l
theorem zerosB_ok : ∀ {vs : List Value} {ts : Ty}, zerosB vs ts = true → vs = zeroVals ts
  | [], .nil, _ => rfl
  | .bool b :: vs, .cons .bool ts, h => by
    simp only [zerosB, Bool.and_eq_true, Bool.not_eq_true'] at h
    rw [h.1, zerosB_ok h.2]; rfl
  | .int j n :: vs, .cons (.int k) ts, h => by
    simp only [zerosB, Bool.and_eq_true, decide_eq_true_eq] at h
    rw [h.1.1, h.1.2, zerosB_ok h.2]; rfl
  | .string s :: vs, .cons .str ts, h => by
    simp only [zerosB, Bool.and_eq_true] at h
    have e : s = ByteArray.empty := by
      have h1 := h.1
      split at h1
      · rename_i hs
        apply ByteArray.ext
        apply Array.ext'
        rw [hs]; rfl
      · cases h1
    rw [e, zerosB_ok h.2]; rfl
  | .slice none l c :: vs, .cons (.slice _) ts, h => by
    simp only [zerosB, Bool.and_eq_true] at h
    rw [Nat.eq_of_beq_eq_true h.1.1, Nat.eq_of_beq_eq_true h.1.2, zerosB_ok h.2]; rfl
theorem fldsB_get {P : Program} : ∀ {fs : List Field} {os : List (Nat × Nat × Bool)}, fldsB P fs os = true → ∀ (f : Nat) off, os[f]? = some off → ∃ fl : Field, fs[f]? = some fl ∧ fl.offset = off.1 ∧ (∃ I, P.info? fl.type = some I ∧ I.size = off.2.1 ∧ 0 < off.2.1) ∧
    (off.2.2 = false → off.2.1 = 1) ∧ ∃ d, P.underlying fl.type = some d ∧ aggD d = off.2.2
  | [], [], _, f, off, h => by simp at h
  | fl :: fs, o :: os, h, f, off, hf => by
    simp only [fldsB, Bool.and_eq_true] at h
    obtain ⟨⟨⟨⟨h1, h2⟩, h3⟩, h4⟩, h5⟩ := h
    cases f with
    | zero =>
      simp at hf; subst hf
      refine ⟨fl, rfl, Nat.eq_of_beq_eq_true h1, ?_, fun e => ?_, ?_⟩
      · split at h2
        · rename_i I hI
          obtain ⟨a, b⟩ := Bool.and_eq_true_iff.1 h2
          exact ⟨I, hI, Nat.eq_of_beq_eq_true a, Nat.le_of_ble_eq_true b⟩
        · cases h2
      · rw [e] at h3; exact Nat.eq_of_beq_eq_true (by simpa using h3)
      · split at h4
        · rename_i d hd; exact ⟨d, hd, eq_of_beq h4⟩
        · cases h4
    | succ f => exact fldsB_get h5 f off (by simpa using hf)
theorem fldsB_map {P : Program} : ∀ {fs : List Field} {os : List (Nat × Nat × Bool)}, fldsB P fs os = true → fs.mapM (fun f => (P.info? f.type).map fun j => (f.offset, j.size)) = some (os.map fun o => (o.1, o.2.1))
  | [], [], _ => rfl
  | fl :: fs, o :: os, h => by
    simp only [fldsB, Bool.and_eq_true] at h
    obtain ⟨⟨⟨⟨h1, h2⟩, h3⟩, h4⟩, h5⟩ := h
    have ih := fldsB_map h5
    split at h2
    · rename_i I hI
      obtain ⟨a, b⟩ := Bool.and_eq_true_iff.1 h2
      simp only [List.mapM_cons, ih, hI, List.map_cons]
      simp only [Option.map_some, Nat.eq_of_beq_eq_true h1, Nat.eq_of_beq_eq_true a]; rfl
    · cases h2
theorem eqFB_ok {P : Program} : ∀ {ts : Ty} {fs : List Field} {off : Nat}, eqFB P ts fs off = true → eqF P ts fs off
  | .nil, [], _, _ => trivial
  | .cons .bool ts, f :: fs, off, h => by
    simp only [eqFB, Bool.and_eq_true] at h
    obtain ⟨⟨⟨h1, h2⟩, h3⟩, h4⟩ := h
    refine ⟨by simpa using h1, Nat.eq_of_beq_eq_true h2, ?_, eqFB_ok h4⟩
    split at h3
    · assumption
    · cases h3
  | .cons (.int k) ts, f :: fs, off, h => by
    simp only [eqFB, Bool.and_eq_true] at h
    obtain ⟨⟨⟨h1, h2⟩, h3⟩, h4⟩ := h
    refine ⟨by simpa using h1, Nat.eq_of_beq_eq_true h2, ?_, eqFB_ok h4⟩
    split at h3
    · rename_i j hj
      rw [hj, of_decide_eq_true h3]
    · cases h3
theorem tyB_ok {P : Program} {T : Nat} {i : TI} (h : tyB P T i = true) : TyOk P T i := by
  unfold tyB at h
  obtain ⟨h1, h⟩ := Bool.and_eq_true_iff.1 h
  obtain ⟨h23, h⟩ := Bool.and_eq_true_iff.1 h
  obtain ⟨h2, h3⟩ := Bool.and_eq_true_iff.1 h23
  split at h1
  case h_2 => cases h1
  rename_i I hI
  obtain ⟨h11, h12⟩ := Bool.and_eq_true_iff.1 h1
  obtain ⟨ha, hb⟩ := Bool.and_eq_true_iff.1 h11
  split at h12
  case h_2 => cases h12
  rename_i z hz
  have hzc := zerosB_ok h12
  split at h
  case h_2 => cases h
  rename_i d hd
  obtain ⟨h4, h⟩ := Bool.and_eq_true_iff.1 h
  have h4 := eq_of_beq h4
  have hinfo : ∃ I, P.info? T = some I ∧ I.size = i.cells.size ∧ I.bytes ≤ 512 := ⟨I, hI, Nat.eq_of_beq_eq_true ha, Nat.le_of_ble_eq_true hb⟩
  have hzero : ∃ I z, P.info? T = some I ∧ I.zero = some z ∧ z.cells = (zeroVals i.cells).toArray := ⟨I, z, hI, hz, by rw [← hzc]⟩
  have hpos : i.cells.size ≠ 0 := fun e => by rw [e] at h3; cases h3
  cases hag : i.agg with
  | true =>
    rw [hag] at h
    simp only at h
    obtain ⟨h5, h6⟩ := Bool.and_eq_true_iff.1 h
    obtain ⟨fs, hfs⟩ : ∃ fs, d = .struct fs := by cases d <;> first | exact ⟨_, rfl⟩ | (simp at h5; done)
    subst hfs
    simp only at h5
    refine { info := hinfo, zero := hzero, flat := h2, pos := hpos, und := ⟨_, hd, h4⟩, offs := fun f off hf => ?_, bool := fun e => ?_, int := fun k e => ?_, one := fun e => ?_, slice := fun us e => ?_, places := fun _ => ⟨fs, hd, fldsB_map h5⟩, eq := fun _ he => ?_ }
    · obtain ⟨fl, g1, g2⟩ := fldsB_get h5 f off hf
      exact ⟨fs, hd, fl, by rw [← g1]; simp, g2⟩
    · rw [hag] at e; cases e
    · rw [hag] at e; cases e
    · rw [hag] at e; cases e
    · rw [hag] at e; cases e
    · rw [he] at h6
      simp only [Bool.not_true, Bool.false_or, Bool.and_eq_true, Bool.not_eq_true'] at h6
      refine ⟨?_, h6.1, h6.2.1, eqFB_ok h6.2.2⟩
      rw [hd]
      simp [Program.fieldsOf, hd]
  | false =>
    rw [hag] at h
    simp only [Bool.and_eq_true] at h
    obtain ⟨⟨h5, h6⟩, h7⟩ := h
    refine { info := hinfo, zero := hzero, flat := h2, pos := hpos, und := ⟨_, hd, h4⟩, offs := fun f off hf => ?_, bool := fun _ e => ?_, int := fun k _ e => ?_, one := fun _ => Nat.eq_of_beq_eq_true h5, slice := fun us _ e => ?_, places := fun e => ?_, eq := fun e => ?_ }
    · rw [List.isEmpty_iff.1 h6] at hf; simp at hf
    · unfold oneB' at h7
      rw [e] at h7
      cases d <;> first | exact hd | (simp at h7; done)
    · unfold oneB' at h7
      rw [e] at h7
      cases d <;> first | (rw [hd, of_decide_eq_true h7]; done) | (simp at h7; done)
    · unfold oneB' at h7
      rw [e] at h7
      cases d <;> first | (rw [hd, Nat.eq_of_beq_eq_true h7]; done) | (simp at h7; done)
    · rw [hag] at e; cases e
    · rw [hag] at e; cases e
theorem tabB_ok {P : Program} : ∀ {tab : List (Nat × TI)}, tabB P tab = true → TabOk P tab
  | [], _ => fun T i h => by cases h
  | (T, i) :: l, h => fun T' i' h' => by
    obtain ⟨h1, h2⟩ := Bool.and_eq_true_iff.1 h
    simp only [look] at h'
    split at h'
    · rename_i hb
      cases h'
      rw [← Nat.eq_of_beq_eq_true hb]
      exact tyB_ok h1
    · exact tabB_ok h2 T' i' h'
end Go.Proofs.YtpihkhknehadbaaGreat.Eng
