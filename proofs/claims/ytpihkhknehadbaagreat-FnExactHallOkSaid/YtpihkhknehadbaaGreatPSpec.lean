/- What the reference's checks say. No condition. -/
import Derived.Test.YtpihkhknehadbaaGreatPBase
import Derived.Test.YtpihkhknehadbaaGreatD
namespace Go.Proofs.YtpihkhknehadbaaGreat.Eng
set_option linter.unusedVariables false
set_option linter.unusedSimpArgs false
attribute [local simp] eqI_dc ltI_dc leI_dc eqN_dc br_not notB_dc andB_dc eqB_dc notB_t notB_f inR_dc upR_dc br_t br_f bnd_s lett_e chk_eq chk_T chk_F br_chkF br_chkF' br_chkT bnd_chk br_pos br_neg natI_n ln_e app_e tk_e dp_e upd_e repl_e
theorem spec_l01In_f (k : Nat) (a lo hi : Int) : spec_l01In.f k a lo hi = chkP (lo ≤ a ∧ a ≤ hi) := by
  unfold spec_l01In.f; simp
def PolicyP (l : List (Int × Unit)) : Prop := l.length = 3 ∧ ∀ x ∈ l, 1 ≤ x.1 ∧ x.1 ≤ 5000
theorem spec_PolicyOk_f {k : Nat} (hk : K0 ≤ k) (x : List (Int × Unit) × Unit) (hx : x.1.length ≤ 1048576) : spec_PolicyOk.f k x = chkP (PolicyP x.1) := by
  unfold K0 at hk
  unfold spec_PolicyOk.f
  rw [loop_chk (n := x.1.length) (Q := True) (fun i => ((i : Int), ())) ?P ?h0 ?hk ?hs ?he]
  case h0 => rfl
  case hk => omega
  case hs => intro i hi _ rec; simp [spec_l01In_f, hi, addI_n (i := i) (by omega)]; rfl
  case he => intro _ rec; simp
  simp
  refine chk_congr (and_congr (by omega) ?_)
  exact all_rd (P := fun x : Int × Unit => 1 ≤ x.1 ∧ x.1 ≤ 5000)
theorem spec_l03Has_f {k : Nat} (hk : K0 ≤ k) (l : List (Int × Unit)) (a : Int) (hx : l.length ≤ 1048576) : spec_l03Has.f k l a = chkP ((a, ()) ∈ l) := by
  unfold K0 at hk
  unfold spec_l03Has.f
  rw [loop_any (n := l.length) (r := chkP True) (e := chkP False) (fun i => ((i : Int), ())) ?P ?h0 ?hk ?hs ?he]
  case h0 => rfl
  case hk => omega
  case hs => intro i hi _ rec; simp [hi, addI_n (i := i) (by omega)]; rfl
  case he => intro _ rec; simp
  simp
  exact chk_congr (Iff.trans (ex_rd (P := fun x : Int × Unit => x.1 = a)) unit_mem)
theorem spec_LimitsOk_f (k : Nat) (x : Int × Int × Unit) : spec_LimitsOk.f k x = chkP ((60 ≤ x.1 ∧ x.1 ≤ 2000) ∧ 1 ≤ x.2.1 ∧ x.2.1 ≤ 40) := by
  unfold spec_LimitsOk.f; simp [spec_l01In_f]
abbrev Item := Int × Int × Int × Unit
def ItemP (b : Int × Int × Bool × List Item × Unit) (i : Nat) : Prop := 1 ≤ (rdP (0, 0, 0, ()) b.2.2.2.1 i).1 ∧ (1 ≤ (rdP (0, 0, 0, ()) b.2.2.2.1 i).2.2.1 ∧ (rdP (0, 0, 0, ()) b.2.2.2.1 i).2.2.1 ≤ 60) ∧
    ((rdP (0, 0, 0, ()) b.2.2.2.1 i).2.2.1 ≤ (rdP (0, 0, 0, ()) b.2.2.2.1 i).2.1 ∧ (rdP (0, 0, 0, ()) b.2.2.2.1 i).2.1 ≤ b.1) ∧ (∀ j, j < i → (rdP (0, 0, 0, ()) b.2.2.2.1 j).1 ≠ (rdP (0, 0, 0, ()) b.2.2.2.1 i).1) ∧
    (0 < i → (rdP (0, 0, 0, ()) b.2.2.2.1 i).2.1 ≤ (rdP (0, 0, 0, ()) b.2.2.2.1 (i - 1)).2.1 - (rdP (0, 0, 0, ()) b.2.2.2.1 (i - 1)).2.2.1 - b.2.1)
def BeltP (b : Int × Int × Bool × List Item × Unit) : Prop := (1 ≤ b.1 ∧ b.1 ≤ 400) ∧ (0 ≤ b.2.1 ∧ b.2.1 ≤ 20) ∧ b.2.2.2.1.length ≤ 40 ∧ ∀ i, i < b.2.2.2.1.length → ItemP b i
theorem spec_BeltOk_f {k : Nat} (hk : K0 ≤ k) (x : Int × Int × Bool × List Item × Unit) : spec_BeltOk.f k x = chkP (BeltP x) := by
  unfold K0 at hk
  unfold spec_BeltOk.f
  simp only [spec_l01In_f, bnd_chk, br_not, chk_F, chk_T, ltI_dc, ln_e, br_chkF']
  by_cases h1 : 1 ≤ x.1 ∧ x.1 ≤ 400
  case neg => rw [br_neg h1]; exact chk_congr ⟨fun z => z.elim, fun z => h1 z.1⟩
  by_cases h2 : 0 ≤ x.2.1 ∧ x.2.1 ≤ 20
  case neg => rw [br_pos h1, br_neg h2]; exact chk_congr ⟨fun z => z.elim, fun z => h2 z.2.1⟩
  by_cases h3 : x.2.2.2.1.length ≤ 40
  case neg => rw [br_pos h1, br_pos h2, br_pos (by omega)]; exact chk_congr ⟨fun z => z.elim, fun z => h3 z.2.2.1⟩
  rw [br_pos h1, br_pos h2, br_neg (by omega), loop_chk (n := x.2.2.2.1.length) (Q := True) (fun i => ((i : Int), ())) (ItemP x) ?h0 ?hk ?hs ?he]
  case h0 => rfl
  case hk => omega
  case he => intro _ rec; exact br_neg (by simp) _ _
  case hs =>
    intro i hi hp rec
    simp only [lett_e, eqI_dc, inR_dc, natI_n, g1]
    rw [br_pos (by omega), br_pos (by omega), loop_while (n := i) (r := chkP False) (e := br (dc (0 < i → (rdP (0, 0, 0, ()) x.2.2.2.1 i).2.1 ≤ (rdP (0, 0, 0, ()) x.2.2.2.1 (i - 1)).2.1 - (rdP (0, 0, 0, ()) x.2.2.2.1 (i - 1)).2.2.1 - x.2.1)) (rec (((i + 1 : Nat) : Int), ())) (chkP False)) (fun j => ((j : Int), ()))
      (fun j => (rdP (0, 0, 0, ()) x.2.2.2.1 j).1 ≠ (rdP (0, 0, 0, ()) x.2.2.2.1 i).1) ?h01 ?hs1 ?he1 ?hk1]
    case h01 => rfl
    case hk1 => omega
    case hs1 =>
      intro j hj _ rec
      simp only []
      rw [br_pos (by omega), br_pos (by omega), addI_n (by omega)]
      rfl
    case he1 =>
      intro _ rec2
      simp only []
      rw [br_neg (by omega), addI_n (by omega)]
      by_cases h0 : 0 < i
      · obtain ⟨i, rfl⟩ : ∃ m, i = m + 1 := ⟨i - 1, by omega⟩
        obtain ⟨_, ⟨p1, p2⟩, ⟨p3, p4⟩, _⟩ := hp i (by omega)
        rw [br_pos (by omega), subI_nat (by omega), br_pos (by omega), br_pos (by omega), natI_n, subI_id (x := (rdP (0, 0, 0, ()) x.2.2.2.1 i).2.1) (by omega), subI_id (by omega), Nat.add_sub_cancel]
        exact br_iff ⟨fun z _ => by omega, fun z => by have := z h0; omega⟩ _ _
      · rw [br_neg (by omega), br_pos (fun z => absurd z h0)]
        rfl
    simp only [g2]
    refine br_iff' ?_ (fun _ => rfl)
    unfold ItemP
    grind
  exact chk_congr ⟨fun z => ⟨h1, h2, h3, z.1⟩, fun z => ⟨z.2.2.2, trivial⟩⟩
end Go.Proofs.YtpihkhknehadbaaGreat.Eng
