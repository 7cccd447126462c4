/- What the reference draws: each draw ends, within bounds. No condition. -/
import Derived.Test.YtnldmnlfocigaaaEvMore
import Derived.Test.YtnldmnlfocigaaaF66
import Derived.Test.YtnldmnlfocigaaaF107
import Derived.Test.YtnldmnlfocigaaaF87
import Derived.Test.YtnldmnlfocigaaaF67
import Derived.Test.YtnldmnlfocigaaaF88
namespace Go.Proofs.Ytnldmnlfocigaaa.F
open Go.RowKit Go.Proofs.YtnldmnlfocigaaaW.PrintWords Go.Proofs.YtnldmnlfocigaaaW.PrintLast Go.Proofs.Ytnldmnlfocigaaa.Opn
set_option linter.unusedVariables false
set_option linter.unusedSimpArgs false
theorem and_255 (y : Int) : 0 ≤ Go.bits .and .i64 y 255 ∧ Go.bits .and .i64 y 255 ≤ 255 := by
  have h3 : (BitVec.ofInt 64 y &&& BitVec.ofInt 64 255).toNat ≤ 255 := by
    rw [BitVec.toNat_and]
    exact Nat.and_le_right
  have e : Go.bits .and .i64 y 255 = IntKind.i64.wrap (((BitVec.ofInt 64 y &&& BitVec.ofInt 64 255).toNat : Nat) : Int) := rfl
  rw [e]
  generalize (BitVec.ofInt 64 y &&& BitVec.ofInt 64 255).toNat = n at h3
  have : IntKind.i64.wrap (n : Int) = (n : Int) := by
    simp [IntKind.wrap, IntKind.bits, IntKind.signed]
    omega
  rw [this]; omega
/-- Where the cursor may stand. -/
def Cok (b : List Int) (i : Int) : Prop := 0 ≤ i ∧ i ≤ (b.length : Int)
theorem d_byte (b : List Int) (hb : b.length ≤ 1048576) (i h : Int) (hi : Cok b i) : ∃ x i' h', spec_l01Byte.f b i h = some (x, i', h') ∧ 0 ≤ x ∧ x ≤ 255 ∧ Cok b i' := by
  obtain ⟨h0, h1⟩ := hi
  unfold spec_l01Byte.f
  by_cases c : i < (b.length : Int)
  · rw [if_pos c, if_pos h0]
    refine ⟨_, _, _, rfl, (and_255 _).1, (and_255 _).2, ?_⟩
    rw [wrap_id (by omega) (by omega)]
    exact ⟨by omega, by omega⟩
  · rw [if_neg c]
    exact ⟨_, _, _, rfl, (and_255 _).1, (and_255 _).2, h0, h1⟩
theorem tmod_in (x n : Int) (hx : 0 ≤ x) (hn : 0 < n) : 0 ≤ Int.tmod x n ∧ Int.tmod x n < n := ⟨Int.tmod_nonneg n hx, Int.tmod_lt_of_pos x hn⟩
theorem d_below (b : List Int) (hb : b.length ≤ 1048576) (i h n : Int) (hi : Cok b i) : ∃ x i' h', spec_l01Below.f b i h n = some (x, i', h') ∧ 0 ≤ x ∧ (x < n ∨ x = 0) ∧ (0 < n → x < n) ∧ Cok b i' := by
  unfold spec_l01Below.f
  by_cases c : n ≤ 0
  · rw [if_pos c]
    exact ⟨_, _, _, rfl, by omega, .inr rfl, fun h => by omega, hi⟩
  · rw [if_neg c]
    by_cases c2 : n ≤ 256
    · rw [if_pos c2]
      obtain ⟨x, i', h', e, h1, h2, h3⟩ := d_byte b hb i h hi
      rw [e]
      simp only [Option.bind_some]
      rw [if_neg (by omega)]
      have := tmod_in x n h1 (by omega)
      exact ⟨_, _, _, rfl, this.1, .inl this.2, fun _ => this.2, h3⟩
    · rw [if_neg c2]
      obtain ⟨x1, i1, h1, e1, a1, a1', a1''⟩ := d_byte b hb i h hi
      obtain ⟨x2, i2, h2, e2, a2, a2', a2''⟩ := d_byte b hb i1 h1 a1''
      obtain ⟨x3, i3, h3, e3, a3, a3', a3''⟩ := d_byte b hb i2 h2 a2''
      obtain ⟨x4, i4, h4, e4, a4, a4', a4''⟩ := d_byte b hb i3 h3 a3''
      rw [e1]; simp only [Option.bind_some]
      rw [e2]; simp only [Option.bind_some]
      rw [e3]; simp only [Option.bind_some]
      rw [e4]; simp only [Option.bind_some]
      rw [if_neg (by omega)]
      rw [wrap_id (x := x1 * 16777216) (by omega) (by omega), wrap_id (x := x2 * 65536) (by omega) (by omega), wrap_id (x := x3 * 256) (by omega) (by omega), wrap_id (x := x1 * 16777216 + x2 * 65536) (by omega) (by omega), wrap_id (x := x1 * 16777216 + x2 * 65536 + x3 * 256) (by omega) (by omega), wrap_id (by omega) (by omega)]
      have := tmod_in (x1 * 16777216 + x2 * 65536 + x3 * 256 + x4) n (by omega) (by omega)
      exact ⟨_, _, _, rfl, this.1, .inl this.2, fun _ => this.2, a4''⟩
theorem d_once (b : List Int) (hb : b.length ≤ 1048576) (i h n : Int) (hi : Cok b i) : ∃ x i' h', spec_l01Once.f b i h n = some (x, i', h') ∧ Cok b i' := by
  obtain ⟨x, i', h', e, _, _, _, hc⟩ := d_below b hb i h n hi
  unfold spec_l01Once.f
  rw [e]
  exact ⟨_, _, _, rfl, hc⟩
theorem d_pick (b : List Int) (hb : b.length ≤ 1048576) (i h : Int) (l : List Int) (hl : 0 < l.length) (hi : Cok b i) : ∃ x i' h', spec_l01PickInt.f b i h l = some (x, i', h') ∧ x ∈ l ∧ Cok b i' := by
  obtain ⟨x, i', h', e, h0, _, h1, hc⟩ := d_below b hb i h (l.length : Int) hi
  have h1 := h1 (by omega)
  unfold spec_l01PickInt.f
  rw [e]
  simp only [Option.bind_some]
  rw [if_pos h0, if_pos h1]
  refine ⟨_, _, _, rfl, ?_, hc⟩
  obtain ⟨n, rfl⟩ := Int.eq_ofNat_of_zero_le h0
  have hn : n < l.length := by omega
  rw [rd_natI, List.getD_eq_getElem?_getD, List.getElem?_eq_getElem hn]
  exact List.getElem_mem hn
theorem ev_new (b : List Int) (hb : b.length ≤ 1048576) : ∃ h, Ev (fun k => spec_l01New.f k b) (b, 0, h) := by
  unfold spec_l01New.f
  have key : ∀ d (i : Nat), i ≤ b.length → b.length - i = d → ∀ h, ∃ h', Ev (fun k => spec_l01New.l0 k b h (i : Int)) (b, 0, h') := by
    intro d
    induction d with
    | zero =>
      intro i hi hd h
      exact ⟨h, Ev.step (fun k => spec_l01New.l0.eq_2 ..) (Ev.neg (by omega) (Ev.now _))⟩
    | succ d ih =>
      intro i hi hd h
      by_cases c : (i : Int) < 4000
      · obtain ⟨h', hh⟩ := ih (i + 1) (by omega) (by omega) (Go.bits .and .i64 (wrap64 ((wrap64 ((wrap64 (h * 131)) + (wrap64 (rd b (i : Int))))) + 7)) 1073741823)
        refine ⟨h', Ev.step (fun k => spec_l01New.l0.eq_2 ..) (Ev.pos (by omega) (Ev.pos c (Ev.pos (by omega) ?_)))⟩
        simp only [wrap_succ i (by omega)]
        exact hh
      · exact ⟨h, Ev.step (fun k => spec_l01New.l0.eq_2 ..) (Ev.pos (by omega) (Ev.neg c (Ev.now _)))⟩
  exact key _ 0 (by omega) rfl _
theorem cok_zero (b : List Int) : Cok b 0 := ⟨by omega, by omega⟩
/-- A draw that stands for itself, ahead of what follows. -/
theorem Ev.bd' {α β : Type} {o : Option α} {f : Nat → α → Option β} {a : α} {r : β} (h : o = some a) (k : Ev (fun n => f n a) r) : Ev (fun n => o.bind (f n)) r := by rw [h]; exact k
end Go.Proofs.Ytnldmnlfocigaaa.F
