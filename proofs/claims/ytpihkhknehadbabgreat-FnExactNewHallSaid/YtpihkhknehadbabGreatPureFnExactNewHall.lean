/- FnExactNewHall, as a pure law. No condition. -/
import Derived.Test.YtpihkhknehadbabGreatPNew
import Derived.Test.YtpihkhknehadbabGreatPHeld
import Derived.Test.YtpihkhknehadbabGreatStFnExactNewHall
namespace Go.Proofs.YtpihkhknehadbabGreat.Eng
set_option linter.unusedVariables false
set_option linter.unusedSimpArgs false
/-- a size step: ended, or so much less -/
theorem szr_two {f : Option (Int × Unit)} {n : Int} {s : Nat} (h : Szr f n s) : (∃ r : Int, f = some (r, ()) ∧ r < 0) ∨ (f = some (n - s, ()) ∧ 0 ≤ n - s) := by
  obtain ⟨r, e, ⟨h1, h2⟩ | ⟨h1, h2⟩⟩ := h
  · exact .inl ⟨r, e, by omega⟩
  · subst h1; exact .inr ⟨e, h2⟩
set_option maxHeartbeats 4000000 in
theorem newHall_pure' {k : Nat} (hk : K0 ≤ k) (P : List (Int × Unit) × Unit) (M : Int × Int × Unit) (B : BeltT) (L : LoopT) (S : StoreT) (F : List FlightT) (hb : BigH (hallOf P M B L S F)) : laws_FnExactNewHall.f k P M B L S F = some (true, ()) := by
  unfold laws_FnExactNewHall.f
  rcases szr_two (laws_szPolicy_f k P 1048576 (by omega) hb.wait) with ⟨r, e, h⟩ | ⟨e1, h1⟩
  · rw [e, bnd_s, ltI_dc, br_pos h]
  rw [e1, bnd_s, ltI_dc, br_neg (by omega)]
  rcases szr_two (laws_szBelt_f k B _ ⟨h1, by omega⟩ hb.items) with ⟨r, e, h⟩ | ⟨e2, h2⟩
  · rw [e, bnd_s, ltI_dc, br_pos h]
  rw [e2, bnd_s, ltI_dc, br_neg (by omega)]
  rcases szr_two (laws_szLoop_f hk L _ ⟨h2, by omega⟩ hb.trays hb.chutes hb.bags hb.wants hb.told) with ⟨r, e, h⟩ | ⟨e3, h3⟩
  · rw [e, bnd_s, ltI_dc, br_pos h]
  rw [e3, bnd_s, ltI_dc, br_neg (by omega)]
  rcases szr_two (laws_szStore_f hk S _ ⟨h3, by omega⟩ hb.lanes hb.kept) with ⟨r, e, h⟩ | ⟨e4, h4⟩
  · rw [e, bnd_s, ltI_dc, br_pos h]
  rw [e4, bnd_s, ltI_dc, br_neg (by omega)]
  rcases szr_two (laws_szFlightS_f k F _ ⟨h4, by omega⟩ hb.flights) with ⟨r, e, h⟩ | ⟨e5, h5⟩
  · rw [e, bnd_s, ltI_dc, br_pos h]
  rw [e5, bnd_s, ltI_dc, br_neg (by omega)]
  have hs : SzT (hallOf P M B L S F) := by
    have hnz := nz_len L.1
    refine { wait := by dsimp only; omega, items := by dsimp only; omega, trays := by dsimp only; omega, chutes := by dsimp only; omega, bags := fun c hc => ?_, wants := by dsimp only; omega, told := fun c hc => ?_, lanes := by dsimp only; omega, kept := fun c hc => ?_, notes := by simp, flights := by dsimp only; omega, cases_ := by simp, allBags := by dsimp only; omega, allKept := by dsimp only; omega }
    · have : c.2.2.1.length ≤ (inCh L.2.2.1).length := mem_flat_len (f := fun c : Chute => c.2.2.1) hc
      omega
    · have : c.2.1.length ≤ (toldW L.2.2.2.1).length := mem_flat_len (f := fun c : Want => c.2.1) hc
      omega
    · have : (bagsK c.1).length ≤ (bagsS S.2.1).length := mem_flat_len (f := fun c : List Kept × Unit => bagsK c.1) hc
      simp only [bagsK, List.length_map] at this
      omega
  clear e1 h1 e2 h2 e3 h3 e4 h4 e5 h5
  have t1 := laws_toPolicy_f hk P hs.wait
  have t2 := laws_toLimits_f k M
  have t3 := laws_toBelt_f hk B hs.items
  have t4 := laws_toLoop_f hk L hs.trays hs.chutes hs.bags hs.wants hs.told
  have t5 := laws_toStore_f hk S hs.lanes hs.kept
  have t6 := laws_toFlightS_f hk F hs.flights
  have q1 := laws_eqPolicy_f hk P hs.wait
  have q3 := laws_eqBelt_f hk B hs.items
  have q4 := laws_eqLoop_f hk L hs.trays hs.chutes hs.bags hs.wants hs.told
  have q5 := laws_eqStore_f hk S hs.lanes hs.kept
  have q6 := laws_eqFlightS_f hk F hs.flights
  have n1 := spec_NewHall_f hk P M B L S F hs.toSzH
  have n2 := impl_NewHall_f hk P M B L S F hs
  have hz := newM_sz hs.toSzH
  have qH := laws_eqHall_f hk (newM P M B L S F) hz
  obtain ⟨r, y, m1, m2, m3⟩ := laws_markHall_h hk (newM P M B L S F) hz
  obtain ⟨r1, c1, e1, -, a1, b1⟩ := laws_markIntS_h hk P.1 hs.wait 1 (by omega)
  obtain ⟨r2, c2, e2, -, a2, b2⟩ := laws_markItemS_h hk B.2.2.2.1 hs.items r1 (by omega)
  obtain ⟨r3, c3, e3, -, a3, b3⟩ := laws_markIntS_h hk L.1 hs.trays r2 (by omega)
  obtain ⟨r4, c4, e4, -, a4, b4⟩ := laws_markChuteS_h hk L.2.2.1 hs.chutes hs.bags r3 (by omega)
  obtain ⟨r5, c5, e5, -, a5, b5⟩ := laws_markWantS_h hk L.2.2.2.1 hs.wants hs.told r4 (by omega)
  obtain ⟨r6, c6, e6, -, a6, b6⟩ := laws_markKeptSS_h hk S.2.1 hs.lanes hs.kept r5 (by omega)
  obtain ⟨r8, c8, e8, -, a8, b8⟩ := laws_markFlightS_h hk F hs.flights r6 (by omega)
  have k1 : laws_markPolicy.f k P 1 = some (r1, (c1, ()), ()) := by unfold laws_markPolicy.f; simp only [bnd_s, e1]
  have k2 : laws_markBelt.f k B r1 = some (r2, (B.1, B.2.1, B.2.2.1, c2, ()), ()) := by unfold laws_markBelt.f; simp only [bnd_s, e2]
  have k3 : laws_markLoop.f k L r2 = some (r5, (c3, L.2.1, c4, c5, ()), ()) := by unfold laws_markLoop.f; simp only [bnd_s, e3, e4, e5]
  have k4 : laws_markStore.f k S r5 = some (r6, (S.1, c6, ()), ()) := by unfold laws_markStore.f; simp only [bnd_s, e6]
  clear e1 e2 e3 e4 e5 e6
  generalize newM P M B L S F = H at *
  generalize HallP (hallOf P M B L S F) = p at *
  simp (disch := omega) only [lett_e, bnd_s, bnd_chk, br_not, br_t, br_f, br_T, br_F, not_true_eq_false, not_false_eq_true, chk_T, chk_F, chk_eq, eqI_dc, ltI_dc, leI_dc, eqN_dc, notB_dc, andB_dc, andB_t, eqB_dc, notB_t, notB_f, inR_dc, upR_dc, ln_e, app_e, tk_e, dp_e, upd_e, repl_e, natI_n, br_pos, br_neg, addI_n, fitN_T, t1, t2, t3, t4, t5, t6, q1, q3, q4, q5, q6, n1, n2, qH, m1, m2, k1, k2, k3, k4, e8, both_same, iff_self]
theorem newHall_pure : laws_FnExactNewHall.Pure := fun P M B L S F h1 _ h3 h4 h5 h6 => ⟨K0, newHall_pure' (Nat.le_refl _) P M B L S F.1 (by
  obtain ⟨⟨a1, _⟩, _⟩ := h1
  obtain ⟨_, _, _, ⟨a2, _⟩, _⟩ := h3
  obtain ⟨⟨a3, _⟩, _, ⟨a4, a5⟩, ⟨a6, a7⟩, _⟩ := h4
  obtain ⟨_, ⟨a8, a9⟩, _⟩ := h5
  obtain ⟨⟨a10, _⟩, _⟩ := h6
  exact ⟨maxLen_le a1, maxLen_le a2, maxLen_le a3, maxLen_le a4, fun c hc => maxLen_le (a5 c hc).2.2.1.1, maxLen_le a6, fun c hc => maxLen_le (a7 c hc).2.1.1, maxLen_le a8, fun c hc => maxLen_le (a9 c hc).1.1, Nat.zero_le _, maxLen_le a10, Nat.zero_le _⟩)⟩
end Go.Proofs.YtpihkhknehadbabGreat.Eng
theorem Go.Proofs.YtpihkhknehadbabGreat.Pure.FnExactNewHall : Go.Proofs.YtpihkhknehadbabGreat.Eng.laws_FnExactNewHall.Pure := Go.Proofs.YtpihkhknehadbabGreat.Eng.newHall_pure
