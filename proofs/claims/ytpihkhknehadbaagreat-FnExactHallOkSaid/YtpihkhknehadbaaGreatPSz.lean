/- The sizes of a hall. No condition. -/
import Derived.Test.YtpihkhknehadbaaGreatPHarH
import Derived.Test.YtpihkhknehadbaaGreatEngOpen
namespace Go.Proofs.YtpihkhknehadbaaGreat.Eng
set_option linter.unusedVariables false
set_option linter.unusedSimpArgs false
theorem maxLen_le {n : Nat} (h : n ≤ maxLen) : n ≤ 9223372036854775807 := by unfold maxLen at h; omega
theorem laws_szIntS_f (k : Nat) (l : List (Int × Unit)) (n : Int) (hn : 0 ≤ n ∧ n ≤ 1048576) (hl : l.length ≤ 9223372036854775807) : Szr (laws_szIntS.f k l n) n l.length := szr_flat hn hl
theorem laws_szItemS_f (k : Nat) (l : List Item) (n : Int) (hn : 0 ≤ n ∧ n ≤ 1048576) (hl : l.length ≤ 9223372036854775807) : Szr (laws_szItemS.f k l n) n l.length := szr_flat hn hl
theorem laws_szKeptS_f (k : Nat) (l : List Kept) (n : Int) (hn : 0 ≤ n ∧ n ≤ 1048576) (hl : l.length ≤ 9223372036854775807) : Szr (laws_szKeptS.f k l n) n l.length := szr_flat hn hl
theorem laws_szNoteS_f (k : Nat) (l : List NoteT) (n : Int) (hn : 0 ≤ n ∧ n ≤ 1048576) (hl : l.length ≤ 9223372036854775807) : Szr (laws_szNoteS.f k l n) n l.length := szr_flat hn hl
theorem laws_szFlightS_f (k : Nat) (l : List FlightT) (n : Int) (hn : 0 ≤ n ∧ n ≤ 1048576) (hl : l.length ≤ 9223372036854775807) : Szr (laws_szFlightS.f k l n) n l.length := szr_flat hn hl
theorem laws_szCaseS_f (k : Nat) (l : List CaseT) (n : Int) (hn : 0 ≤ n ∧ n ≤ 1048576) (hl : l.length ≤ 9223372036854775807) : Szr (laws_szCaseS.f k l n) n l.length := szr_flat hn hl
theorem szr_one {f : Option (Int × Unit)} {n : Int} {s : Nat} (hf : Szr f n s) : Szr (bnd f fun y => br (ltI y.1 0) (some (-1, ())) (some (y.1, ()))) n (s + 0) := szr_bnd hf (fun m h _ _ => szr_end h)
theorem laws_szPolicy_f (k : Nat) (x : List (Int × Unit) × Unit) (n : Int) (hn : 0 ≤ n ∧ n ≤ 1048576) (hl : x.1.length ≤ 9223372036854775807) : Szr (laws_szPolicy.f k x n) n (x.1.length + 0) := szr_one (laws_szIntS_f k _ n hn hl)
theorem laws_szBelt_f (k : Nat) (x : Int × Int × Bool × List Item × Unit) (n : Int) (hn : 0 ≤ n ∧ n ≤ 1048576) (hl : x.2.2.2.1.length ≤ 9223372036854775807) : Szr (laws_szBelt.f k x n) n (x.2.2.2.1.length + 0) := szr_one (laws_szItemS_f k _ n hn hl)
theorem laws_szChute_f (k : Nat) (x : Chute) (n : Int) (hn : 0 ≤ n ∧ n ≤ 1048576) (hl : x.2.2.1.length ≤ 9223372036854775807) : Szr (laws_szChute.f k x n) n (x.2.2.1.length + 0) := szr_one (laws_szIntS_f k _ n hn hl)
theorem laws_szWant_f (k : Nat) (x : Want) (n : Int) (hn : 0 ≤ n ∧ n ≤ 1048576) (hl : x.2.1.length ≤ 9223372036854775807) : Szr (laws_szWant.f k x n) n (x.2.1.length + 0) := szr_one (laws_szIntS_f k _ n hn hl)
/-- what a size comes to, in a loop -/
theorem szr_use {f : Option (Int × Unit)} {m : Int} {s : Nat} (hf : Szr f m s) (hm : 0 ≤ m) {R : Type} (a : Option R) (b : Int → Option R) : (bnd f fun y => br (ltI y.1 0) a (b y.1)) = br (dc (0 ≤ m - s)) (b (m - s)) a := by
  obtain ⟨r, e, ⟨h1, h2⟩ | ⟨h1, h2⟩⟩ := hf
  · rw [e, h1]; simp (disch := omega) only [lett_e, bnd_s, bnd_chk, br_not, br_t, br_f, br_T, br_F, not_true_eq_false, not_false_eq_true, chk_T, chk_F, chk_eq, eqI_dc, ltI_dc, leI_dc, eqN_dc, notB_dc, andB_dc, andB_t, eqB_dc, notB_t, notB_f, inR_dc, upR_dc, ln_e, app_e, tk_e, dp_e, upd_e, repl_e, natI_n, br_pos, br_neg, addI_n, fitN_T]
  · rw [e, h1]; simp (disch := omega) only [lett_e, bnd_s, bnd_chk, br_not, br_t, br_f, br_T, br_F, not_true_eq_false, not_false_eq_true, chk_T, chk_F, chk_eq, eqI_dc, ltI_dc, leI_dc, eqN_dc, notB_dc, andB_dc, andB_t, eqB_dc, notB_t, notB_f, inR_dc, upR_dc, ln_e, app_e, tk_e, dp_e, upd_e, repl_e, natI_n, br_pos, br_neg, addI_n, fitN_T]
theorem laws_szChuteS_f {k : Nat} (hk : K0 ≤ k) (l : List Chute) (n : Int) (hn : 0 ≤ n ∧ n ≤ 1048576) (hl : l.length ≤ 9223372036854775807) (hb : ∀ c ∈ l, c.2.2.1.length ≤ 9223372036854775807) : Szr (laws_szChuteS.f k l n) n (l.length + (inCh l).length) := by
  unfold laws_szChuteS.f
  refine szr_loop (d := (0, 0, [], ())) hk hn hl (fun l => (inCh l).length) rfl (fun c => c.2.2.1.length + 0) (fun i hi => by rw [inCh_s hi, List.length_append, Nat.add_zero]) (fun i m rec hi hl2 hm => ?_) (fun m rec => by simp (disch := omega) only [lett_e, bnd_s, bnd_chk, br_not, br_t, br_f, br_T, br_F, not_true_eq_false, not_false_eq_true, chk_T, chk_F, chk_eq, eqI_dc, ltI_dc, leI_dc, eqN_dc, notB_dc, andB_dc, andB_t, eqB_dc, notB_t, notB_f, inR_dc, upR_dc, ln_e, app_e, tk_e, dp_e, upd_e, repl_e, natI_n, br_pos, br_neg, addI_n, fitN_T])
  have h1 := laws_szChute_f k (rdP (0, 0, [], ()) l i) m hm (hb _ (rd_mem hi))
  have h2 := szr_use h1 hm.1 (some (-1, ())) (fun r => rec (r, ((i + 1 : Nat) : Int), ()))
  rw [← h2]
  simp (disch := omega) only [lett_e, bnd_s, bnd_chk, br_not, br_t, br_f, br_T, br_F, not_true_eq_false, not_false_eq_true, chk_T, chk_F, chk_eq, eqI_dc, ltI_dc, leI_dc, eqN_dc, notB_dc, andB_dc, andB_t, eqB_dc, notB_t, notB_f, inR_dc, upR_dc, ln_e, app_e, tk_e, dp_e, upd_e, repl_e, natI_n, br_pos, br_neg, addI_n, fitN_T]
  rfl
def toldW (l : List Want) : List (Int × Unit) := l.flatMap fun c => c.2.1
theorem toldW_s {l : List Want} {i : Nat} (h : i < l.length) : toldW (l.take (i + 1)) = toldW (l.take i) ++ (rdP (0, [], ()) l i).2.1 := by
  rw [take_s (d := (0, [], ())) h, toldW, List.flatMap_append]; simp [toldW]
theorem laws_szWantS_f {k : Nat} (hk : K0 ≤ k) (l : List Want) (n : Int) (hn : 0 ≤ n ∧ n ≤ 1048576) (hl : l.length ≤ 9223372036854775807) (hb : ∀ c ∈ l, c.2.1.length ≤ 9223372036854775807) : Szr (laws_szWantS.f k l n) n (l.length + (toldW l).length) := by
  unfold laws_szWantS.f
  refine szr_loop (d := (0, [], ())) hk hn hl (fun l => (toldW l).length) rfl (fun c => c.2.1.length + 0) (fun i hi => by rw [toldW_s hi, List.length_append, Nat.add_zero]) (fun i m rec hi hl2 hm => ?_) (fun m rec => by simp (disch := omega) only [lett_e, bnd_s, bnd_chk, br_not, br_t, br_f, br_T, br_F, not_true_eq_false, not_false_eq_true, chk_T, chk_F, chk_eq, eqI_dc, ltI_dc, leI_dc, eqN_dc, notB_dc, andB_dc, andB_t, eqB_dc, notB_t, notB_f, inR_dc, upR_dc, ln_e, app_e, tk_e, dp_e, upd_e, repl_e, natI_n, br_pos, br_neg, addI_n, fitN_T])
  have h1 := laws_szWant_f k (rdP (0, [], ()) l i) m hm (hb _ (rd_mem hi))
  have h2 := szr_use h1 hm.1 (some (-1, ())) (fun r => rec (r, ((i + 1 : Nat) : Int), ()))
  rw [← h2]
  simp (disch := omega) only [lett_e, bnd_s, bnd_chk, br_not, br_t, br_f, br_T, br_F, not_true_eq_false, not_false_eq_true, chk_T, chk_F, chk_eq, eqI_dc, ltI_dc, leI_dc, eqN_dc, notB_dc, andB_dc, andB_t, eqB_dc, notB_t, notB_f, inR_dc, upR_dc, ln_e, app_e, tk_e, dp_e, upd_e, repl_e, natI_n, br_pos, br_neg, addI_n, fitN_T]
  rfl
theorem laws_szKeptSS_f {k : Nat} (hk : K0 ≤ k) (l : List (List Kept × Unit)) (n : Int) (hn : 0 ≤ n ∧ n ≤ 1048576) (hl : l.length ≤ 9223372036854775807) (hb : ∀ c ∈ l, c.1.length ≤ 9223372036854775807) : Szr (laws_szKeptSS.f k l n) n (l.length + (bagsS l).length) := by
  unfold laws_szKeptSS.f
  refine szr_loop (d := ([], ())) hk hn hl (fun l => (bagsS l).length) rfl (fun c => c.1.length) (fun i hi => by rw [bagsS_s hi, List.length_append, bagsK, List.length_map]) (fun i m rec hi hl2 hm => ?_) (fun m rec => by simp (disch := omega) only [lett_e, bnd_s, bnd_chk, br_not, br_t, br_f, br_T, br_F, not_true_eq_false, not_false_eq_true, chk_T, chk_F, chk_eq, eqI_dc, ltI_dc, leI_dc, eqN_dc, notB_dc, andB_dc, andB_t, eqB_dc, notB_t, notB_f, inR_dc, upR_dc, ln_e, app_e, tk_e, dp_e, upd_e, repl_e, natI_n, br_pos, br_neg, addI_n, fitN_T])
  have h1 := laws_szKeptS_f k (rdP ([], ()) l i).1 m hm (hb _ (rd_mem hi))
  have h2 := szr_use h1 hm.1 (some (-1, ())) (fun r => rec (r, ((i + 1 : Nat) : Int), ()))
  rw [← h2]
  simp (disch := omega) only [lett_e, bnd_s, bnd_chk, br_not, br_t, br_f, br_T, br_F, not_true_eq_false, not_false_eq_true, chk_T, chk_F, chk_eq, eqI_dc, ltI_dc, leI_dc, eqN_dc, notB_dc, andB_dc, andB_t, eqB_dc, notB_t, notB_f, inR_dc, upR_dc, ln_e, app_e, tk_e, dp_e, upd_e, repl_e, natI_n, br_pos, br_neg, addI_n, fitN_T]
  rfl
theorem laws_szLoop_f {k : Nat} (hk : K0 ≤ k) (x : LoopT) (n : Int) (hn : 0 ≤ n ∧ n ≤ 1048576) (h1 : x.1.length ≤ 9223372036854775807) (h2 : x.2.2.1.length ≤ 9223372036854775807) (h3 : ∀ c ∈ x.2.2.1, c.2.2.1.length ≤ 9223372036854775807) (h4 : x.2.2.2.1.length ≤ 9223372036854775807) (h5 : ∀ c ∈ x.2.2.2.1, c.2.1.length ≤ 9223372036854775807) :
    Szr (laws_szLoop.f k x n) n (x.1.length + ((x.2.2.1.length + (inCh x.2.2.1).length) + ((x.2.2.2.1.length + (toldW x.2.2.2.1).length) + 0))) :=
  szr_bnd (laws_szIntS_f k _ n hn h1) fun m a b _ => szr_bnd (laws_szChuteS_f hk _ m ⟨a, by omega⟩ h2 h3) fun m a b _ => szr_bnd (laws_szWantS_f hk _ m ⟨a, by omega⟩ h4 h5) fun m a b _ => szr_end a
theorem laws_szStore_f {k : Nat} (hk : K0 ≤ k) (x : StoreT) (n : Int) (hn : 0 ≤ n ∧ n ≤ 1048576) (h1 : x.2.1.length ≤ 9223372036854775807) (h2 : ∀ c ∈ x.2.1, c.1.length ≤ 9223372036854775807) : Szr (laws_szStore.f k x n) n ((x.2.1.length + (bagsS x.2.1).length) + 0) :=
  szr_one (laws_szKeptSS_f hk _ n hn h1 h2)
/-- a hall's sizes, as they come -/
structure BigH (x : HallT) : Prop where
  wait : x.2.1.length ≤ 9223372036854775807
  items : x.2.2.2.2.2.2.2.1.length ≤ 9223372036854775807
  trays : x.2.2.2.2.2.2.2.2.1.length ≤ 9223372036854775807
  chutes : x.2.2.2.2.2.2.2.2.2.2.1.length ≤ 9223372036854775807
  bags : ∀ c ∈ x.2.2.2.2.2.2.2.2.2.2.1, c.2.2.1.length ≤ 9223372036854775807
  wants : x.2.2.2.2.2.2.2.2.2.2.2.1.length ≤ 9223372036854775807
  told : ∀ w ∈ x.2.2.2.2.2.2.2.2.2.2.2.1, w.2.1.length ≤ 9223372036854775807
  lanes : x.2.2.2.2.2.2.2.2.2.2.2.2.2.1.length ≤ 9223372036854775807
  kept : ∀ l ∈ x.2.2.2.2.2.2.2.2.2.2.2.2.2.1, l.1.length ≤ 9223372036854775807
  notes : x.2.2.2.2.2.2.2.2.2.2.2.2.2.2.1.length ≤ 9223372036854775807
  flights : x.2.2.2.2.2.2.2.2.2.2.2.2.2.2.2.1.length ≤ 9223372036854775807
  cases_ : x.2.2.2.2.2.2.2.2.2.2.2.2.2.2.2.2.1.length ≤ 9223372036854775807
theorem mem_flat_len {α β : Type} {f : α → List β} {l : List α} {c : α} (h : c ∈ l) : (f c).length ≤ (l.flatMap f).length := by
  induction l with
  | nil => cases h
  | cons a l ih =>
    rw [List.flatMap_cons, List.length_append]
    rcases List.mem_cons.1 h with e | h
    · subst e; omega
    · have := ih h; omega
theorem laws_szHall_f {k : Nat} (hk : K0 ≤ k) (x : HallT) (hb : BigH x) (n : Int) (hn : 0 ≤ n ∧ n ≤ 1048576) : ∃ r : Int, laws_szHall.f k x n = some (r, ()) ∧ (r < 0 ∨ SzT x) := by
  have h : Szr (laws_szHall.f k x n) n ((x.2.1.length + 0) + ((x.2.2.2.2.2.2.2.1.length + 0) + ((x.2.2.2.2.2.2.2.2.1.length + ((x.2.2.2.2.2.2.2.2.2.2.1.length + (inCh x.2.2.2.2.2.2.2.2.2.2.1).length) + ((x.2.2.2.2.2.2.2.2.2.2.2.1.length + (toldW x.2.2.2.2.2.2.2.2.2.2.2.1).length) + 0))) + (((x.2.2.2.2.2.2.2.2.2.2.2.2.2.1.length + (bagsS x.2.2.2.2.2.2.2.2.2.2.2.2.2.1).length) + 0) + (x.2.2.2.2.2.2.2.2.2.2.2.2.2.2.1.length + (x.2.2.2.2.2.2.2.2.2.2.2.2.2.2.2.1.length + (x.2.2.2.2.2.2.2.2.2.2.2.2.2.2.2.2.1.length + 0))))))) :=
    szr_bnd (laws_szPolicy_f k (x.2.1, ()) n hn hb.wait) fun m a b _ => szr_bnd (laws_szBelt_f k (x.2.2.2.2.1, x.2.2.2.2.2.1, x.2.2.2.2.2.2.1, x.2.2.2.2.2.2.2.1, ()) m ⟨a, by omega⟩ hb.items) fun m a b _ =>
    szr_bnd (laws_szLoop_f hk (x.2.2.2.2.2.2.2.2.1, x.2.2.2.2.2.2.2.2.2.1, x.2.2.2.2.2.2.2.2.2.2.1, x.2.2.2.2.2.2.2.2.2.2.2.1, ()) m ⟨a, by omega⟩ hb.trays hb.chutes hb.bags hb.wants hb.told) fun m a b _ =>
    szr_bnd (laws_szStore_f hk (x.2.2.2.2.2.2.2.2.2.2.2.2.1, x.2.2.2.2.2.2.2.2.2.2.2.2.2.1, ()) m ⟨a, by omega⟩ hb.lanes hb.kept) fun m a b _ => szr_bnd (laws_szNoteS_f k _ m ⟨a, by omega⟩ hb.notes) fun m a b _ =>
    szr_bnd (laws_szFlightS_f k _ m ⟨a, by omega⟩ hb.flights) fun m a b _ => szr_bnd (laws_szCaseS_f k _ m ⟨a, by omega⟩ hb.cases_) fun m a b _ => szr_end a
  obtain ⟨r, e, ⟨h1, _⟩ | ⟨h1, h2⟩⟩ := h
  · exact ⟨r, e, .inl (by omega)⟩
  · refine ⟨r, e, .inr ?_⟩
    have hnz := nz_len x.2.2.2.2.2.2.2.2.1
    refine { wait := by omega, items := by omega, trays := by omega, chutes := by omega, bags := fun c hc => ?_, wants := by omega, told := fun c hc => ?_, lanes := by omega, kept := fun c hc => ?_, notes := by omega, flights := by omega, cases_ := by omega, allBags := by omega, allKept := by omega }
    · have : c.2.2.1.length ≤ (inCh x.2.2.2.2.2.2.2.2.2.2.1).length := mem_flat_len (f := fun c : Chute => c.2.2.1) hc
      omega
    · have : c.2.1.length ≤ (toldW x.2.2.2.2.2.2.2.2.2.2.2.1).length := mem_flat_len (f := fun c : Want => c.2.1) hc
      omega
    · have : (bagsK c.1).length ≤ (bagsS x.2.2.2.2.2.2.2.2.2.2.2.2.2.1).length := mem_flat_len (f := fun c : List Kept × Unit => bagsK c.1) hc
      simp only [bagsK, List.length_map] at this
      omega
theorem big_wf {x : HallT} (h : Wf K40 x) : BigH x := by
  obtain ⟨_, ⟨h1, _⟩, _, _, _, _, _, ⟨h2, _⟩, ⟨h3, _⟩, _, ⟨h4, h5⟩, ⟨h6, h7⟩, _, ⟨h8, h9⟩, ⟨h10, _⟩, ⟨h11, _⟩, ⟨h12, _⟩, _⟩ := h
  exact ⟨maxLen_le h1, maxLen_le h2, maxLen_le h3, maxLen_le h4, fun c hc => maxLen_le (h5 c hc).2.2.1.1, maxLen_le h6, fun c hc => maxLen_le (h7 c hc).2.1.1, maxLen_le h8, fun c hc => maxLen_le (h9 c hc).1.1, maxLen_le h10, maxLen_le h11, maxLen_le h12⟩
end Go.Proofs.YtpihkhknehadbaaGreat.Eng
