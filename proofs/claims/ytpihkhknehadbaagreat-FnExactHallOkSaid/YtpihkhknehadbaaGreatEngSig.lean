/- A call of a function that is told by its contract. No condition. -/
import Derived.Test.YtpihkhknehadbaaGreatEngGive
namespace Go.Proofs.YtpihkhknehadbaaGreat.Eng
open Go.RowKit
set_option linter.unusedVariables false
section
/-! ### Where a root is a source -/
def findS : List Sr → Nat → Nat → Option (Nat × Sr)
  | [], _, _ => none
  | x :: ss, j, r => if r ∈ x.id then some (j, x) else findS ss (j + 1) r
theorem findS_none : ∀ {ss : List Sr} {j r : Nat}, r ∉ srcIds ss → findS ss j r = none
  | [], _, _, _ => rfl
  | x :: ss, j, r, h => by
    simp only [srcIds, List.mem_append, not_or] at h
    simp only [findS, if_neg h.1]
    exact findS_none h.2
theorem mem_srcIds : ∀ {ss : List Sr} {r : Nat}, r ∈ srcIds ss ↔ ∃ (k : Nat) (x : Sr), ss[k]? = some x ∧ r ∈ x.id
  | [], r => by simp [srcIds]
  | x :: ss, r => by
    simp only [srcIds, List.mem_append, mem_srcIds (ss := ss)]
    constructor
    · rintro (h | ⟨k, y, h1, h2⟩)
      · exact ⟨0, x, rfl, h⟩
      · exact ⟨k + 1, y, h1, h2⟩
    · rintro ⟨k, y, h1, h2⟩
      cases k with
      | zero => simp at h1; subst h1; exact .inl h2
      | succ k => exact .inr ⟨k, y, h1, h2⟩
theorem findS_at : ∀ {ss : List Sr} {j k r : Nat} {x : Sr}, (srcIds ss).Nodup → ss[k]? = some x → r ∈ x.id → findS ss j r = some (j + k, x)
  | [], _, _, _, _, _, h, _ => by simp at h
  | y :: ss, j, k, r, x, hn, h, hr => by
    simp only [srcIds, List.nodup_append] at hn
    obtain ⟨n1, n2, n3⟩ := hn
    cases k with
    | zero => simp at h; subst h; simp [findS, hr]
    | succ k =>
      have hm : r ∈ srcIds ss := mem_srcIds.2 ⟨k, x, h, hr⟩
      have hy : r ∉ y.id := fun hy => n3 r hy r hm rfl
      simp only [findS, if_neg hy]
      rw [findS_at n2 (by simpa using h) hr, show j + 1 + k = j + (k + 1) by omega]
def inBox (G : Gh) (r b o f n : Nat) : Prop := ∃ O, (G.anch r).1 = some ⟨b, O, none⟩ ∧ ∃ j, j < n ∧ o = O + f + j
open Classical in
noncomputable def callLab (G : Gh) (R : List Root) (ss : List Sr) (ro : List Nat) (r s b o : Nat) : Lab := match findS ss 0 r with
  | none => if r ∈ ro then .free else .hid
  | some (j, .row _) => .of j s
  | some (j, .inn _ i f) => match R[r]? with | some ⟨.row _ ts _, _, _⟩ => if s = i * ts.size + f + 1 then .of j 0 else .hid | _ => .hid
  | some (j, .box _ f n) => if inBox G r b o f n then .of j s else .hid
  | some (_, .nul) => .hid
/-- the labels that a call sees -/
noncomputable def callG (G : Gh) (R : List Root) (ss : List Sr) (ro : List Nat) : Gh := ⟨fun b o => match G.own b o with | .of r s => callLab G R ss ro r s b o | l => l, G.anch⟩
theorem callLab_free {G : Gh} {R : List Root} {ss : List Sr} {ro : List Nat} {r s b o : Nat} (h : callLab G R ss ro r s b o = .free) : r ∈ ro := by
  unfold callLab at h
  split at h
  · split at h
    · assumption
    · cases h
  · cases h
  · split at h
    · split at h <;> cases h
    · cases h
  · split at h <;> cases h
  · cases h
open Classical in
/-- the labels behind a call -/
noncomputable def backG (G1 Gc Gl : Gh) (w : World) (T : Nat → Nat → Lab) (an : Nat → Option Addr × Nat) : Gh :=
  ⟨fun b o => if b < w.heap.size ∧ (Gc.own b o = .free ∨ Gc.own b o = .hid) then G1.own b o else match Gl.own b o with | .of j s => T j s | l => l, an⟩
section
variable {G1 Gc Gl : Gh} {w w' : World} {T : Nat → Nat → Lab} {an : Nat → Option Addr × Nat}
open Classical in
theorem back_lk (hO : Out Gc w Gl w') (j s : Nat) : Lk Gl w' (backG G1 Gc Gl w T an) w' (.of j s) (T j s) := fun b o hb e => by
  refine ⟨?_, rfl, rfl⟩
  show (if _ then _ else _) = _
  rw [if_neg]
  · rw [e]
  · rintro ⟨h1, h2 | h2⟩
    · have := (hO.free b o h1 h2).1; rw [e] at this; cases this
    · have := (hO.hid b o h1 h2).1; rw [e] at this; cases this
open Classical in
theorem back_keep (hO : Out Gc w Gl w') {b o : Nat} (hb : b < w.heap.size) (h : Gc.own b o = .free ∨ Gc.own b o = .hid) :
    (backG G1 Gc Gl w T an).own b o = G1.own b o ∧ at_ w' b o = at_ w b o ∧ fz w' b o = fz w b o := by
  refine ⟨if_pos ⟨hb, h⟩, ?_⟩
  rcases h with h | h
  · exact (hO.free b o hb h).2
  · exact (hO.hid b o hb h).2
open Classical in
theorem back_same (hO : Out Gc w Gl w') {L : Lab} (h : ∀ b o, b < w.heap.size → G1.own b o = L → Gc.own b o = .free ∨ Gc.own b o = .hid) : Lk G1 w (backG G1 Gc Gl w T an) w' L L := fun b o hb e => by
  obtain ⟨h1, h2⟩ := back_keep (G1 := G1) (T := T) (an := an) hO hb (h b o hb e)
  exact ⟨h1.trans e, h2⟩
end
/-! ### Labels, turned back -/
def backL (R1 : List Root) : Sr → Nat → Lab
  | .row r, s => .of r s
  | .inn r i f, _ => match R1[r]? with | some ⟨.row _ ts _, _, _⟩ => .of r (i * ts.size + f + 1) | _ => .free
  | _, _ => .free
def boxL : AV → Nat → Lab
  | .bp r _, s => .of r s
  | _, _ => .free
def oneL (R1 : List Root) (tm : List AV) (m : Md) (t : Ty) (v : AV) (n : Nat) : List (Nat → Lab) := match m.ptr with
  | true => boxL v :: (List.range (idsCells m.sm t)).map (fun i s => Lab.of (n + i) s)
  | false => (srcOne ⟨tm, R1⟩ m t v).map (backL R1)
def lentL (R1 : List Root) (tm : List AV) : List (Md × Ty × AV) → Nat → List (Nat → Lab)
  | [], _ => []
  | (m, t, v) :: vs, n => match isLent m with
    | false => lentL R1 tm vs n
    | true => oneL R1 tm m t v n ++ lentL R1 tm vs (n + newIds m t)
def labAt (l : List (Nat → Lab)) (i s : Nat) : Lab := (l.getD i (fun _ => .free)) s
theorem labAt_left {l l' : List (Nat → Lab)} {i s : Nat} (h : i < l.length) : labAt (l ++ l') i s = labAt l i s := by
  unfold labAt; rw [List.getD_eq_getElem?_getD, List.getElem?_append_left h, List.getD_eq_getElem?_getD]
theorem labAt_right {l l' : List (Nat → Lab)} {i s : Nat} : labAt (l ++ l') (l.length + i) s = labAt l' i s := by
  unfold labAt; rw [List.getD_eq_getElem?_getD, List.getElem?_append_right (by omega), List.getD_eq_getElem?_getD, show l.length + i - l.length = i by omega]
/-- what is known of a source -/
def SrcF (G1 : Gh) (w : World) (G' : Gh) (w' : World) (R1 : List Root) : Sr → Prop
  | .row r => G'.anch r = G1.anch r
  | .inn r i f => G'.anch r = G1.anch r ∧ ∀ ts l ver a, R1[r]? = some ⟨.row true ts l, ver, a⟩ → ∀ s, s ≠ i * ts.size + f + 1 → Lk G1 w G' w' (.of r s) (.of r s)
  | _ => True
theorem backLabs_of {G1 Gl G' : Gh} {w w' : World} {R1 : List Root} {T : Nat → Nat → Lab} (hl : ∀ j s, Lk Gl w' G' w' (.of j s) (T j s)) : ∀ (ss : List Sr) (j : Nat), (∀ x ∈ ss, SrcF G1 w G' w' R1 x) → (∀ i, i < ss.length → ∀ s, T (j + i) s = labAt (ss.map (backL R1)) i s) → BackLabs G1 w Gl G' w' R1 j ss
  | [], _, _, _ => trivial
  | x :: ss, j, hx, hT => by
    refine ⟨?_, backLabs_of hl ss (j + 1) (fun x h => hx x (List.mem_cons_of_mem _ h)) (fun i hi s => ?_)⟩
    · have h0 := hT 0 (by simp)
      have hx0 := hx x (by simp)
      cases x with
      | row r =>
        refine ⟨hx0, fun u => ?_⟩
        have := hl j u
        rw [show T j u = .of r u from h0 u] at this
        exact this
      | inn r i f =>
        refine ⟨hx0.1, fun ts l ver a hq => ⟨?_, hx0.2 ts l ver a hq⟩⟩
        have := hl j 0
        have e : T j 0 = .of r (i * ts.size + f + 1) := by
          have := h0 0
          rw [show j + 0 = j from rfl] at this
          rw [this]
          show (match R1[r]? with | some ⟨.row _ ts _, _, _⟩ => Lab.of r (i * ts.size + f + 1) | _ => .free) = _
          rw [hq]
        rw [e] at this
        exact this
      | _ => trivial
    · have := hT (i + 1) (by simpa using hi) s
      rw [show j + 1 + i = j + (i + 1) by omega, this]
      rfl
theorem backAll_of {G1 Gl G' : Gh} {w w' : World} {R0 R1 : List Root} {tm : List AV} {T : Nat → Nat → Lab} (hl : ∀ j s, Lk Gl w' G' w' (.of j s) (T j s)) : ∀ {PT : Ty} {pm : List Md} {as : List AV} {x : PT.den} {j n : Nat}, outAll ⟨tm, R0⟩ PT pm as = some x →
    (∀ x ∈ srcAll ⟨tm, R1⟩ PT pm as, SrcF G1 w G' w' R1 x) → (∀ i, i < (lentL R1 tm (withTys PT pm as) n).length → ∀ s, T (j + i) s = labAt (lentL R1 tm (withTys PT pm as) n) i s) → BackAll G1 w Gl G' w' R1 tm (withTys PT pm as) j n := by
  intro PT
  induction PT with
  | nil =>
    intro pm as x j n hout _ _
    cases pm with
    | nil => cases as with
      | nil => trivial
      | cons _ _ => cases hout
    | cons _ _ => cases as <;> cases hout
  | cons t PT _ ih =>
    intro pm as x j n hout hS hT
    cases pm with
    | nil => cases as <;> cases hout
    | cons m pm =>
      cases as with
      | nil => cases hout
      | cons v as =>
        simp only [outAll] at hout
        split at hout
        · rename_i x0 y0 ho1 ho2
          simp only [withTys, lentL] at hT
          simp only [withTys, BackAll]
          have hS2 : ∀ x ∈ srcAll ⟨tm, R1⟩ PT pm as, SrcF G1 w G' w' R1 x := fun x hx => hS x (List.mem_append_right _ hx)
          cases hlm : isLent m with
          | false => rw [hlm] at hT; exact ih ho2 hS2 hT
          | true =>
            rw [hlm] at hT
            simp only at hT ⊢
            have hlen : (oneL R1 tm m t v n).length = idsOne m t := by
              unfold oneL
              cases hp : m.ptr with
              | true => unfold idsOne; rw [hp]; simp; omega
              | false => simp only [List.length_map]; exact srcLen_one ho1 hp R1
            refine ⟨?_, ih ho2 hS2 (fun i hi s => ?_)⟩
            · have hT1 : ∀ i, i < (oneL R1 tm m t v n).length → ∀ s, T (j + i) s = labAt (oneL R1 tm m t v n) i s := fun i hi s => by
                rw [hT i (by rw [List.length_append]; omega) s, labAt_left hi]
              unfold BackOne
              cases hp : m.ptr with
              | true =>
                have e : oneL R1 tm m t v n = boxL v :: (List.range (idsCells m.sm t)).map (fun i s => Lab.of (n + i) s) := by unfold oneL; rw [hp]
                rw [e] at hT1
                refine ⟨fun r f ev => ?_, fun i hi => ?_⟩
                · have h0 := hT1 0 (by simp) 0
                  subst ev
                  have := hl j 0
                  rw [show T j 0 = .of r 0 from h0] at this
                  exact this
                · have h1 : ∀ s, T (j + 1 + i) s = .of (n + i) s := fun s => by
                    have := hT1 (i + 1) (by simp [hi]) s
                    rw [show j + 1 + i = j + (i + 1) by omega, this]
                    simp [labAt, List.getD_eq_getElem?_getD, hi]
                  refine ⟨rfl, rfl, ?_, fun s => ?_⟩
                  · have := hl (j + 1 + i) 0
                    rw [h1 0] at this; exact this
                  · have := hl (j + 1 + i) (s + 1)
                    rw [h1 (s + 1)] at this; exact this
              | false =>
                have e : oneL R1 tm m t v n = (srcOne ⟨tm, R1⟩ m t v).map (backL R1) := by unfold oneL; rw [hp]
                rw [e] at hT1
                exact backLabs_of hl _ _ (fun x hx => hS x (List.mem_append_left _ hx)) (fun i hi s => hT1 i (by simpa using hi) s)
            · have := hT (idsOne m t + i) (by rw [List.length_append, hlen]; omega) s
              rw [show j + idsOne m t + i = j + (idsOne m t + i) by omega, this, ← hlen, labAt_right]
        · cases hout
  | _ => intro pm as x j n hout; cases pm <;> cases as <;> cases hout
/-- the labels of what comes in -/
def newT (soft : Bool) (n i : Nat) : Nat → Lab
  | 0 => .of (n + i) 0
  | s + 1 => match soft with | true => .free | false => .of (n + i) (s + 1)
theorem ren_of {soft : Bool} {Gl G' : Gh} {w' : World} {T : Nat → Nat → Lab} {j n i : Nat} (hl : ∀ j s, Lk Gl w' G' w' (.of j s) (T j s)) (h : ∀ s, T j s = newT soft n i s) : Ren soft Gl w' G' (j, 0) (n + i, 0) := by
  refine ⟨rfl, rfl, ?_, ?_⟩
  · have := hl j 0
    rw [h 0] at this; exact this
  · cases soft with
    | true => intro s; have := hl j (s + 1); rw [h (s + 1)] at this; exact this
    | false => intro s; have := hl j (s + 1); rw [h (s + 1)] at this; exact this
/-! ### What sources are -/
theorem srcCell_row {R : List Root} {tm : List AV} {sm : Nat} {t : Ty} {v : AV} {x : t.den} (h : outCell ⟨tm, R⟩ sm t v = some x) {r : Nat} (hr : r ∈ rowIds (srcCell sm t v)) : ∃ o ts l ver a, R[r]? = some ⟨.row o ts l, ver, a⟩ := by
  unfold srcCell at hr
  unfold outCell at h
  cases ho : isOwn sm t with
  | false => rw [ho] at hr; cases hr
  | true =>
    rw [ho] at hr h
    have row1 : ∀ (r' : Nat), r ∈ rowIds [Sr.row r'] → r = r' := fun r' h => by simpa [rowIds] using h
    cases v with
    | sl r' a =>
      have e := row1 r' hr
      subst e
      simp only at h
      split at h
      · rename_i o ts l ver b hq; exact ⟨o, ts, l, ver, b, hq⟩
      · cases h
    | hd r' a n =>
      have e := row1 r' hr
      subst e
      simp only at h
      split at h
      · rename_i o ts l ver b hq; exact ⟨o, ts, l, ver, b, hq⟩
      · cases h
    | tl r' a n =>
      have e := row1 r' hr
      subst e
      simp only at h
      split at h
      · rename_i o ts l ver b hq; exact ⟨o, ts, l, ver, b, hq⟩
      · cases h
    | il r' s i f =>
      have e : r = r' := by simpa [rowIds] using hr
      subst e
      simp only at h
      split at h
      · rename_i ts l ver b hq; exact ⟨true, ts, l, ver, b, hq⟩
      · cases h
    | _ => simp [rowIds] at hr
theorem srcCells_row {R : List Root} {tm : List AV} {sm : Nat} : ∀ {ts : Ty} {a : AV} {x : ts.den}, outCells ⟨tm, R⟩ sm ts a = some x → ∀ {r : Nat}, r ∈ rowIds (srcCells sm ts a) → ∃ o ts l ver a, R[r]? = some ⟨.row o ts l, ver, a⟩ := by
  intro ts
  induction ts with
  | cons t ts _ ih =>
    intro a x h r hr
    cases a with
    | cons v a =>
      simp only [outCells] at h
      split at h
      · rename_i x0 y0 h1 h2
        simp only [srcCells, rowIds_append, List.mem_append] at hr
        rcases hr with hr | hr
        · exact srcCell_row h1 hr
        · exact ih h2 hr
      · cases h
    | _ => cases h
  | _ => intro a x h r hr; cases a <;> cases hr
/-- a box that is handed -/
def BoxF (R : List Root) (r f n : Nat) : Prop := ∃ cs ss ver a, R[r]? = some ⟨.box cs ss, ver, a⟩ ∧ (n = 0 ∨ f + n ≤ cs.length)
theorem src_one {R : List Root} {tm : List AV} {m : Md} {t : Ty} {v : AV} {x : t.den} (h : outOne ⟨tm, R⟩ m t v = some x) :
    (∀ r, r ∈ rowIds (srcOne ⟨tm, R⟩ m t v) → ∃ o ts l ver a, R[r]? = some ⟨.row o ts l, ver, a⟩) ∧ (∀ r f n, Sr.box r f n ∈ srcOne ⟨tm, R⟩ m t v → BoxF R r f n) := by
  unfold outOne at h
  unfold srcOne
  cases hp : m.ptr with
  | true =>
    rw [hp] at h
    cases v with
    | bp r f =>
      simp only at h ⊢
      cases hbx : isBoxAt R r with
      | false => rw [hbx] at h; cases h
      | true =>
        rw [hbx] at h
        simp only at h
        refine ⟨fun r' hr => ?_, fun r' f' n' hm => ?_⟩
        · simp only [rowIds] at hr; exact srcCells_row h hr
        · rcases List.mem_cons.1 hm with e | hm
          · cases e
            simp only [isBoxAt] at hbx
            split at hbx
            · rename_i cs ss ver a hq
              refine ⟨cs, ss, ver, a, hq, ?_⟩
              have hlen := outCells_len h
              have hbc : boxCells ⟨tm, R⟩ r f t.size = headAV t.size (dropAV f (.ofList cs)) := by simp [boxCells, hq]
              rw [hbc, len_box] at hlen
              omega
            · cases hbx
          · exact absurd rfl (srcCells_noBox hm r' f' n')
    | _ => cases h
  | false =>
    rw [hp] at h
    simp only at h ⊢
    cases hc : isCons t with
    | true =>
      rw [hc] at h
      cases v with
      | agg cs => exact ⟨fun r hr => srcCells_row h hr, fun r f n hm => absurd rfl (srcCells_noBox hm r f n)⟩
      | _ => cases h
    | false =>
      rw [hc] at h
      refine ⟨fun r hr => srcCell_row h hr, fun r f n hm => ?_⟩
      unfold srcCell at hm
      simp only at hm
      split at hm
      · cases hm
      · cases v <;> simp at hm
theorem src_all {R : List Root} {tm : List AV} : ∀ {PT : Ty} {pm : List Md} {as : List AV} {x : PT.den}, outAll ⟨tm, R⟩ PT pm as = some x →
    (∀ r, r ∈ rowIds (srcAll ⟨tm, R⟩ PT pm as) → ∃ o ts l ver a, R[r]? = some ⟨.row o ts l, ver, a⟩) ∧ (∀ r f n, Sr.box r f n ∈ srcAll ⟨tm, R⟩ PT pm as → BoxF R r f n) ∧ (srcAll ⟨tm, R⟩ PT pm as).length = idsAll PT pm ∧ as.length = pm.length := by
  intro PT
  induction PT with
  | nil =>
    intro pm as x h
    cases pm with
    | nil => cases as with
      | nil => exact ⟨fun r hr => (by cases hr), fun r f n hm => (by cases hm), rfl, rfl⟩
      | cons _ _ => cases h
    | cons _ _ => cases as <;> cases h
  | cons t PT _ ih =>
    intro pm as x h
    cases pm with
    | nil => cases as <;> cases h
    | cons m pm =>
      cases as with
      | nil => cases h
      | cons v as =>
        simp only [outAll] at h
        split at h
        · rename_i x0 y0 h1 h2
          obtain ⟨a1, a2⟩ := src_one h1
          obtain ⟨b1, b2, b3, b4⟩ := ih h2
          refine ⟨fun r hr => ?_, fun r f n hm => ?_, ?_, by simp [b4]⟩
          · simp only [srcAll, rowIds_append, List.mem_append] at hr
            exact hr.elim (a1 r) (b1 r)
          · simp only [srcAll, List.mem_append] at hm
            exact hm.elim (a2 r f n) (b2 r f n)
          · simp only [srcAll, List.length_append, idsAll, srcOne_len h1, b3]
        · cases h
  | _ => intro pm as x h; cases pm <;> cases as <;> cases h
theorem roCell_row {R : List Root} {tm : List AV} {sm : Nat} {t : Ty} {v : AV} {r : Nat} (h : r ∈ roCell ⟨tm, R⟩ sm t v) : ∃ o ts l ver a, R[r]? = some ⟨.row o ts l, ver, a⟩ := by
  unfold roCell at h
  split at h
  · cases h
  · split at h <;> first | (cases h; done) | (split at h <;> first | (cases h; done) | (rename_i hq; rw [List.mem_singleton.1 h]; exact ⟨_, _, _, _, _, hq⟩))
theorem roCells_row {R : List Root} {tm : List AV} {sm : Nat} : ∀ {ts : Ty} {a : AV} {r : Nat}, r ∈ roCells ⟨tm, R⟩ sm ts a → ∃ o ts l ver a, R[r]? = some ⟨.row o ts l, ver, a⟩ := by
  intro ts
  induction ts with
  | cons t ts _ ih =>
    intro a r h
    cases a with
    | cons v a =>
      rcases List.mem_append.1 h with h | h
      · exact roCell_row h
      · exact ih h
    | _ => cases h
  | _ => intro a r h; cases a <;> cases h
theorem roOne_row {R : List Root} {tm : List AV} {m : Md} {t : Ty} {v : AV} {r : Nat} (h : r ∈ roOne ⟨tm, R⟩ m t v) : ∃ o ts l ver a, R[r]? = some ⟨.row o ts l, ver, a⟩ := by
  unfold roOne at h
  split at h
  · split at h
    · exact roCells_row h
    · cases h
  · split at h
    · split at h
      · exact roCells_row h
      · cases h
    · exact roCell_row h
theorem roAll_row {R : List Root} {tm : List AV} : ∀ {PT : Ty} {pm : List Md} {as : List AV} {r : Nat}, r ∈ roAll ⟨tm, R⟩ PT pm as → ∃ o ts l ver a, R[r]? = some ⟨.row o ts l, ver, a⟩ := by
  intro PT
  induction PT with
  | cons t PT _ ih =>
    intro pm as r h
    cases pm with
    | nil => cases as <;> cases h
    | cons m pm =>
      cases as with
      | nil => cases h
      | cons v as =>
        rcases List.mem_append.1 h with h | h
        · exact roOne_row h
        · exact ih h
  | _ => intro pm as r h; cases pm <;> cases as <;> cases h
theorem srcAll_box {R R1 : List Root} {tm : List AV} (hb : ∀ r f n, boxCells ⟨tm, R1⟩ r f n = boxCells ⟨tm, R⟩ r f n) : ∀ {PT : Ty} {pm : List Md} {as : List AV}, srcAll ⟨tm, R1⟩ PT pm as = srcAll ⟨tm, R⟩ PT pm as := by
  intro PT
  have one : ∀ (m : Md) (t : Ty) (v : AV), srcOne ⟨tm, R1⟩ m t v = srcOne ⟨tm, R⟩ m t v := fun m t v => by
    unfold srcOne
    cases m.ptr with
    | true => cases v <;> simp [hb]
    | false => rfl
  induction PT with
  | cons t PT _ ih =>
    intro pm as
    cases pm with
    | nil => cases as <;> rfl
    | cons m pm => cases as with
      | nil => rfl
      | cons v as => simp only [srcAll, one, ih]
  | _ => intro pm as; cases pm <;> cases as <;> rfl
theorem tgtL_of {G : Gh} {w : World} {R : List Root} {G' : Gh} : ∀ {ss : List Sr} {L : List (Nat × Nat)}, (∀ k x, ss[k]? = some x → Tgt G w R G' x (L.getD k (0, 0))) → TgtL G w R G' ss L
  | [], _, _ => trivial
  | x :: ss, L, h => by
    refine ⟨?_, tgtL_of (fun k y hk => ?_)⟩
    · rw [headD_getD]; exact h 0 x rfl
    · have := h (k + 1) y hk
      simp only [List.getD_eq_getElem?_getD, List.getElem?_drop] at this ⊢
      rw [Nat.add_comm 1 k]; exact this
end
end Go.Proofs.YtpihkhknehadbaaGreat.Eng
