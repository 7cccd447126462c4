/- New rows: make, slice literals, clear. No condition. -/
import Derived.Test.YtpihkhknehadbaaGreatEngApp
import Derived.Great.BuildSlice
namespace Go.Proofs.YtpihkhknehadbaaGreat.Eng
open Go.RowKit
set_option linter.unusedVariables false
section
variable {P : Program}
section
variable {R : Type} {G : Gh} {σ : St} {a : Act} {w : World} {K : AV → St → Option R} {r : R} {next : Act → World → Prop} {Q : Exit → Act → World → Prop} {o : Oper} {tab : List (Nat × TI)}
variable {soft : Bool} {Γ : List (Nat × Ent)} {call : Nat → List AV → St → (AV → St → Option R) → Option R} {k : Nat} {qt : Bool}
/-- a zero element -/
theorem zero_el {own : Bool} {r0 : Nat} {c : Nat → Nat → Option Value} {b : Nat} : ∀ (ts : Ty) (p kk : Nat), ts.flat = true → (∀ j, j < ts.size → c b (p + j) = (zeroVals ts)[j]?) → elG c (cvOf G w r0 own) ts ts.dflt b p kk := by
  intro ts
  induction ts with
  | cons t ts _ ih =>
    intro p kk hf hc
    have rest : ∀ z, zeroVals (.cons t ts) = z :: zeroVals ts → ts.flat = true → cvOf G w r0 own kk t t.dflt z → elG c (cvOf G w r0 own) (.cons t ts) (Ty.cons t ts).dflt b p kk := by
      intro z hz hf hcv
      refine ⟨⟨z, ?_, hcv⟩, ih (p + 1) (kk + 1) hf (fun j hj => ?_)⟩
      · have := hc 0 (by simp [Ty.size]); rw [hz] at this; simpa using this
      · have := hc (j + 1) (by simp only [Ty.size]; omega)
        rw [hz] at this
        rw [show p + 1 + j = p + (j + 1) by omega]; simpa using this
    cases t with
    | bool => exact rest _ rfl hf (by cases own <;> rfl)
    | int k => exact rest _ rfl hf (by cases own <;> rfl)
    | str => exact rest _ rfl hf (by cases own <;> rfl)
    | slice us =>
      refine rest (.slice none 0 0) rfl hf ?_
      cases own with
      | true => exact ⟨none, 0, rfl, Nat.le_refl _, .inl rfl⟩
      | false => exact ⟨none, 0, rfl, Nat.le_refl _, fun i hi => absurd hi (by simp [Ty.dflt])⟩
    | _ => cases hf
  | _ => intro p kk _ _; trivial
/-- a new row -/
theorem new_row {T : Nat} {own : Bool} {ts : Ty} {l : List ts.den} {cells : List Value} {σ0 : St} (hR : RelR G σ0.roots w) (hsz : cells.length = List.length l * ts.size)
    (hc : ∀ (G' : Gh) (w' : World), (∀ L, Lk G w G' w' L L) → ∀ i, i < List.length l → elG (fun b o => if b = w.heap.size then cells[o]? else none) (cvOf G' w' σ0.roots.length own) ts (rd ts l i) w.heap.size (i * ts.size) (i * ts.size)) :
    ∃ G', RelR G' (newRoot σ0 (.row own ts l)).roots (w.alloc (.cells cells.toArray T)) ∧ Evo G σ0.roots w G' (newRoot σ0 (.row own ts l)).roots (w.alloc (.cells cells.toArray T)) ∧
      (avR G' (newRoot σ0 (.row own ts l)).roots (w.alloc (.cells cells.toArray T)) (.sl σ0.roots.length 0)).1 (.slice (some ⟨w.heap.size, 0, none⟩) (List.length l) (List.length l)) := by
  have hF := fr_alloc (G := G) (w := w) σ0.roots.length (List.length l) (.cells cells.toArray T) (ex := fun r => σ0.roots.length ≤ r) (Nat.le_refl _)
  obtain ⟨h1, h2⟩ := add_roots (G' := allocG G σ0.roots.length w (List.length l)) (w' := w.alloc (.cells cells.toArray T)) (N := [⟨.row own ts l, 0, 0⟩]) hR hF (fun hE j q hj => by
    have e : j = 0 := by have := (List.getElem?_eq_some_iff.1 hj).1; simpa using this
    subst e
    simp at hj; subst hj
    show rowG _ _ _ _ _ _ ((allocG G σ0.roots.length w (List.length l)).anch (σ0.roots.length + 0)).1 ((allocG G σ0.roots.length w (List.length l)).anch (σ0.roots.length + 0)).2
    have ha : (allocG G σ0.roots.length w (List.length l)).anch (σ0.roots.length + 0) = (some ⟨w.heap.size, 0, none⟩, List.length l) := by simp [allocG]
    rw [ha]
    refine ⟨Nat.le_refl _, .inr ⟨w.heap.size, 0, rfl, fun j hj => ⟨by simp [allocG], fr_new, ?_⟩, fun i hi => ?_⟩⟩
    · have hj : j < List.length l * ts.size := hj
      rw [Nat.zero_add, at_new (by omega)]; rfl
    · have := hc _ _ (lk_alloc σ0.roots.length (List.length l) (.cells cells.toArray T)) i hi
      rw [Nat.zero_add]
      refine elG_move ts _ _ _ _ _ _ _ (fun j v hj e => ?_) (fun j _ t x v g => g) this
      simp only [if_true] at e
      have hlt : i * ts.size + j < cells.length := (List.getElem?_eq_some_iff.1 e).1
      rw [at_new hlt, List.getD_eq_getElem?_getD, e]; rfl)
  refine ⟨_, h1, h2, ⟨.row own ts l, 0, 0⟩, by simp [newRoot, addRoots], Nat.le_refl _, fun _ ts' n hh => ?_⟩
  cases hh
  simp [allocG]
theorem made_get (zs : List Value) (n s j : Nat) (hz : zs.length = s) (hs : s ≠ 0) (hj : j < n * s) : (madeCells zs.toArray (n * s)).toList[j]? = zs[j % s]? := by
  have hm : j % s < zs.length := by rw [hz]; exact Nat.mod_lt _ (by omega)
  simp [madeCells, hj, hz, List.getElem?_eq_getElem hm, hm]
theorem op_makeSlice {T : Nat} {l c : Operand} (hT : TabOk P tab) (ho : o.op = .makeSlice T l c) (hR : Rel G σ a w) (hn : Nxt false G σ w a o.dst K r next) (h : evOp tab soft Γ call k o σ K = some r) : o.wp P a w next Q := by
  have hl := hR.eval l
  have hc := hR.eval c
  simp only [evOp, ho] at h
  split at h
  · rename_i ts he
    have main : ∀ (n m : Int), σ.eval l = .val (.int .i64) n → σ.eval c = .val (.int .i64) m → br (fitN n) (br (eqI n m) (K (.sl σ.roots.length 0) (newRoot σ (.row ts.1 ts.2 (repl (natI n) ts.2.dflt)))) none) none = some r → o.wp P a w next Q := by
      intro n m e1 e2 h
      rw [e1] at hl
      rw [e2] at hc
      have hl : a.eval l = .int .i64 n := hl
      have hc : a.eval c = .int .i64 m := hc
      rcases br_some h with ⟨hfit, h⟩ | ⟨_, h⟩
      · rcases br_some h with ⟨heq, hKK⟩ | ⟨_, h⟩
        · have heq : n = m := of_decide_eq_true heq
          subst heq
          obtain ⟨f1, f2⟩ := and2 hfit
          have f1 : (0 : Int) ≤ n := of_decide_eq_true f1
          have f2 : natI n < 68719476736 := by
            have f2 : Nat.ble 68719476736 (Int.toNat n) = false := by simpa using f2
            rcases Nat.lt_or_ge (Int.toNat n) 68719476736 with h | h
            · exact h
            · rw [Nat.ble_eq_true_of_le h] at f2; cases f2
          obtain ⟨e, j, hu, hj, hjc, _⟩ := elemTs_spec hT he
          obtain ⟨I, i1, i2, i3⟩ := (hT e j hj).info
          obtain ⟨I', z, z1, z2, z3⟩ := (hT e j hj).zero
          rw [i1] at z1; cases z1
          have hnn : ((natI n : Nat) : Int) = n := Int.toNat_of_nonneg f1
          have hb : (I.bytes : Int) * n ≤ 281474976710656 := by
            have : I.bytes * natI n ≤ 512 * 68719476736 := Nat.mul_le_mul i3 (Nat.le_of_lt f2)
            rw [← hnn]
            have h2 : ((I.bytes * natI n : Nat) : Int) ≤ 281474976710656 := by omega
            rwa [Int.natCast_mul] at h2
          have hrun := run_make (P := P) w T e I z hu i1 z2 .i64 .i64 n n f1 (Int.le_refl _) hb (by omega)
          have hflat : ts.2.flat = true := hjc ▸ (hT e j hj).flat
          have hzl : (zeroVals ts.2).length = ts.2.size := zero_len _
          have hpos : ts.2.size ≠ 0 := hjc ▸ (hT e j hj).pos
          have hIs : I.size = ts.2.size := by rw [i2, hjc]
          rw [z3, hjc, hIs] at hrun
          have hlen : List.length (repl (natI n) ts.2.dflt) = natI n := by simp [repl]
          obtain ⟨G', g1, g2, g3⟩ := new_row (T := e) (own := ts.1) (l := repl (natI n) ts.2.dflt) (cells := (madeCells (zeroVals ts.2).toArray (natI n * ts.2.size)).toList) hR.roots (by rw [hlen]; simp [size_madeCells]) (fun G' w' _ i hi => by
            rw [hlen] at hi
            have hrd : rd ts.2 (repl (natI n) ts.2.dflt) i = ts.2.dflt := by simp [rd, repl, List.getD_eq_getElem?_getD, hi]
            rw [hrd]
            refine zero_el ts.2 _ _ hflat (fun j hj => ?_)
            simp only [if_true]
            have hlt : i * ts.2.size + j < natI n * ts.2.size := lt_row hi (Nat.le_refl _) hj
            rw [made_get _ _ _ _ hzl hpos hlt, Nat.mul_comm, Nat.mul_add_mod, Nat.mod_eq_of_lt hj])
          rw [hlen] at g3
          refine wp_of_value (x := .slice (some ⟨w.heap.size, 0, none⟩) (natI n) (natI n)) ?_ (hn _ _ G' _ _ hKK g1 g3 g2 (fun e => by cases e))
          simp only [execOp, ho, hl, hc, Sem.run_bind, hrun]
          rfl
        · cases h
      · cases h
    split at h
    · rename_i n m e1 e2
      exact main n m e1 e2 h
    · cases h
  · cases h
theorem zeroCells_get (zs : List Value) (n s j : Nat) (hz : zs.length = s) (hs : s ≠ 0) (hj : j < n * s) : (Builtin.zeroCells zs.toArray n).toList[j]? = zs[j % s]? := by
  have hm : j % s < zs.length := by rw [hz]; exact Nat.mod_lt _ (by omega)
  simp [Builtin.zeroCells, hj, hz, List.getElem?_eq_getElem hm, hm]
theorem op_clear {x : Operand} {Ts : Array TypeId} (hT : TabOk P tab) (ho : o.op = .call ⟨.builtin .clear, #[x], Ts⟩) (hR : Rel G σ a w) (hn : Nxt false G σ w a o.dst K r next)
    (h : evBuiltin .clear (argTs tab .clear Ts.toList) [σ.eval x] σ K = some r) : o.wp P a w next Q := by
  have hx := hR.eval x
  generalize σ.eval x = av at h hx
  cases av with
  | tl r' a' lo =>
    simp only [evBuiltin] at h
    split at h
    · rename_i us ts l ver anc hus hq
      obtain ⟨hab, h⟩ := chk_some h
      have hab := beq_nat hab
      split at h
      · rename_i y hy
        obtain ⟨ey, gy⟩ := cast_spec hy
        obtain ⟨T, hTs, he⟩ : ∃ T, Ts = #[T] ∧ elemTs tab T = some us := by
          simp only [argTs] at hus
          split at hus
          · rename_i T hTs; exact ⟨T, Array.ext' hTs, hus⟩
          · cases hus
        obtain ⟨e, j, hu, hj, hjc, _⟩ := elemTs_spec hT he
        obtain ⟨I, z, z1, z2, z3⟩ := (hT e j hj).zero
        have hflat : us.2.flat = true := hjc ▸ (hT e j hj).flat
        have hpos : us.2.size ≠ 0 := hjc ▸ (hT e j hj).pos
        rw [hjc] at z3
        obtain ⟨ub, u2⟩ := us
        subst ey
        have gy : u2.dflt = y := gy
        subst gy
        simp only at hflat hpos z3
        have hzl : (zeroVals u2).length = u2.size := zero_len _
        obtain ⟨q, hq', _, g⟩ := hx
        rw [hq] at hq'; cases hq'
        obtain ⟨hlo, ev⟩ := g hab.symm u2 (List.length l) rfl
        have hrow : rowG G w (flatV (vw G w)) (.of r' 0) u2 l (G.anch r').1 (G.anch r').2 := hR.roots r' _ hq
        have hdl : (dp l lo).length = List.length l - lo := len_dp
        -- nothing to clear
        by_cases h0 : List.length l - lo = 0
        · have hl' : app (tk l lo) (repl (dp l lo).length u2.dflt) = l := by
            rw [hdl, h0]
            have : List.length l ≤ lo := by omega
            simp [app, tk, repl, List.take_of_length_le this]
          rw [hl'] at h
          obtain ⟨h1, h2⟩ := upd_root (G' := G) (w' := w) (q' := ⟨.row false u2 l, ver + 1, anc⟩) hR.roots hq (Fr.refl _ _ _) (RLe.row' (fun _ _ e => by cases e) (fun _ _ e => by cases e) (Nat.lt_succ_self _) (Nat.le_refl _) (fun _ => .inr ⟨rfl, rfl⟩)) (fun _ => hrow)
          refine wp_of_value (x := .tuple #[]) (w' := w) ?_ (hn (.tup .nil) (σ.roots.set r' ⟨.row false u2 l, ver + 1, anc⟩) G (.tuple #[]) w h h1 ⟨[], rfl, rfl⟩ h2 (fun e => by cases e))
          rw [h0] at ev
          have hrun : (Builtin.clear_ #[T] o.type #[a.eval x]).run P w = .ok (.tuple #[]) w := by
            rw [ev]
            generalize (if (G.anch r').2 = lo then (G.anch r').1 else ((G.anch r').1).map (·.add (lo * u2.size))) = ad
            cases ad <;> simp [Builtin.clear_, run_underlying hu]
          simp [execOp, ho, hTs, resolve, invoke, builtin, hrun]
        · obtain ⟨hr1, hr2⟩ := hrow
          rcases hr2 with hr2 | ⟨b, p, ea, hc, hel⟩
          · omega
          · have hcap : (G.anch r').2 ≠ lo := by omega
            rw [if_neg hcap, ea] at ev
            have ev : a.eval x = .slice (some ⟨b, p + lo * u2.size, none⟩) (List.length l - lo) ((G.anch r').2 - lo) := by rw [ev]; simp [add_at]
            have hbound : ∀ m, m < (List.length l - lo) * u2.size → lo * u2.size + m < List.length l * u2.size := fun m hm => by
              have : lo * u2.size + (List.length l - lo) * u2.size = List.length l * u2.size := by rw [← Nat.add_mul]; congr 1; omega
              omega
            have hle : List.length l * u2.size ≤ (G.anch r').2 * u2.size := Nat.mul_le_mul_right _ hr1
            have hzlen : (Builtin.zeroCells (zeroVals u2).toArray (List.length l - lo)).toList.length = (List.length l - lo) * u2.size := by simp [Builtin.zeroCells, hzl]
            generalize hvs : (Builtin.zeroCells (zeroVals u2).toArray (List.length l - lo)).toList = vs at hzlen
            have hgetv : ∀ j, j < vs.length → vs[j]? = (zeroVals u2)[j % u2.size]? := fun j hj => by
              rw [← hvs]; exact zeroCells_get _ _ _ _ hzl hpos (by omega)
            have hcc : ∀ j, j < vs.length → (at_ w b (p + lo * u2.size + j)).isSome = true ∧ w.frozen? ⟨b, p + lo * u2.size + j, none⟩ = false ∧ G.own b (p + lo * u2.size + j) = .of r' 0 := fun j hj => by
              have h1 := hbound j (by omega)
              obtain ⟨c1, c2, c3⟩ := hc (lo * u2.size + j) (by omega)
              rw [← Nat.add_assoc] at c1 c2 c3
              exact ⟨c3, c2, c1⟩
            have h1c : ∀ v ∈ vs, v.oneCell' = true := by
              intro v hv
              obtain ⟨j, hj, e⟩ := List.mem_iff_getElem.1 hv
              have hg := hgetv j hj
              rw [List.getElem?_eq_getElem hj, e] at hg
              have hm : v ∈ zeroVals u2 := List.mem_of_getElem? hg.symm
              have : ∀ (ts : Ty), ts.flat = true → ∀ v ∈ zeroVals ts, v.oneCell' = true := by
                intro ts
                induction ts with
                | cons t ts _ ih =>
                  intro hf v hv
                  cases t with
                  | bool => rcases List.mem_cons.1 hv with e | hv; (· subst e; rfl); (· exact ih hf v hv)
                  | int k => rcases List.mem_cons.1 hv with e | hv; (· subst e; rfl); (· exact ih hf v hv)
                  | str => rcases List.mem_cons.1 hv with e | hv; (· subst e; rfl); (· exact ih hf v hv)
                  | slice us => rcases List.mem_cons.1 hv with e | hv; (· subst e; rfl); (· exact ih hf v hv)
                  | _ => cases hf
                | _ => intro _ v hv; cases hv
              exact this u2 hflat v hm
            have hst := run_storeCells_cells (P := P) b (p + lo * u2.size) vs 0 w (fun j hj => by simpa [at_] using (hcc j hj).1) (fun j hj => by simpa using (hcc j hj).2.1) h1c
            simp only [Nat.add_zero] at hst
            have hrun : (Builtin.clear_ #[T] o.type #[a.eval x]).run P w = .ok (.tuple #[]) (w.setCells b (p + lo * u2.size) vs) := by
              rw [ev]
              obtain ⟨m, hm⟩ : ∃ m, List.length l - lo = m + 1 := ⟨List.length l - lo - 1, by omega⟩
              rw [hm] at hvs ⊢
              simp [Builtin.clear_, run_underlying hu, zeroValue, typeInfo, z1, z2, z3, hvs, hst]
            have hlen : List.length (app (tk l lo) (repl (dp l lo).length u2.dflt)) = List.length l := by
              simp only [app, List.length_append, len_tk hlo, repl, List.length_replicate, len_dp]; omega
            have hlk := lk_set (w := w) (G := G) (L0 := .of r' 0) (b := b) (p := p + lo * u2.size) (vs := vs) (fun j hj => (hcc j hj).2.2)
            obtain ⟨h1, h2⟩ := upd_root (G' := G) (w' := w.setCells b (p + lo * u2.size) vs) (q' := ⟨.row false u2 (app (tk l lo) (repl (dp l lo).length u2.dflt)), ver + 1, anc⟩) hR.roots hq (fr_set (fun m hm => ⟨0, (hcc m hm).2.2⟩))
              (RLe.row' (fun _ _ e => by cases e) (fun _ _ e => by cases e) (Nat.lt_succ_self _) (Nat.le_refl _) (fun _ => .inr ⟨by simp only [RK.hd, hlen], rfl⟩)) (fun hE => by
                refine ⟨by rw [hlen]; exact hr1, .inr ⟨b, p, ea, fun m hm => ?_, fun i hi => ?_⟩⟩
                · obtain ⟨c1, c2, c3⟩ := hc m hm
                  refine ⟨c1, by rw [World.frozen?_setCells]; exact c2, ?_⟩
                  by_cases hlt : lo * u2.size ≤ m ∧ m < lo * u2.size + vs.length
                  · have := at_set_in (w := w) (b := b) (p := p + lo * u2.size) (vs := vs) (fun j hj => (hcc j hj).1) (m - lo * u2.size) (by omega)
                    rw [show p + lo * u2.size + (m - lo * u2.size) = p + m by omega] at this
                    rw [this]; rfl
                  · rw [at_set_out (by omega)]; exact c3
                · rw [hlen] at hi
                  by_cases hil : i < lo
                  · have hrd : rd u2 (app (tk l lo) (repl (dp l lo).length u2.dflt)) i = rd u2 l i := by
                      simp only [rd, app, tk, List.getD_eq_getElem?_getD]
                      rw [List.getElem?_append_left (by simp; omega), List.getElem?_take_of_lt hil]
                    rw [hrd]
                    refine elG_mono u2 _ b _ _ (fun m v hm e' => ?_) (fun k t x v g => flatV_keep (vw_evo hE) k k t x v g) (hel i hi)
                    have := lt_row hil (Nat.le_refl _) hm
                    rw [at_set_out (by omega)]; exact e'
                  · have hrd : rd u2 (app (tk l lo) (repl (dp l lo).length u2.dflt)) i = u2.dflt := by
                      simp only [rd, app, tk, repl, List.getD_eq_getElem?_getD]
                      rw [List.getElem?_append_right (by simp; omega)]
                      simp only [List.length_take, List.getElem?_replicate]
                      split <;> rfl
                    rw [hrd]
                    have hz := zero_el (G := G) (w := w.setCells b (p + lo * u2.size) vs) (own := false) (r0 := r') (c := at_ (w.setCells b (p + lo * u2.size) vs)) (b := b) u2 (p + i * u2.size) (i * u2.size) hflat (fun j hj => by
                      have e1 : i * u2.size = lo * u2.size + (i - lo) * u2.size := by rw [← Nat.add_mul]; congr 1; omega
                      have hlt : (i - lo) * u2.size + j < (List.length l - lo) * u2.size := lt_row (by omega) (Nat.le_refl _) hj
                      have := at_set_in (w := w) (b := b) (p := p + lo * u2.size) (vs := vs) (fun j hj => (hcc j hj).1) ((i - lo) * u2.size + j) (by omega)
                      rw [show p + lo * u2.size + ((i - lo) * u2.size + j) = p + i * u2.size + j by omega] at this
                      rw [this]
                      have hg := hgetv ((i - lo) * u2.size + j) (by omega)
                      rw [Nat.mul_comm, Nat.mul_add_mod, Nat.mod_eq_of_lt hj, Nat.mul_comm] at hg
                      rw [List.getD_eq_getElem?_getD, hg]
                      have : j < (zeroVals u2).length := by omega
                      simp [List.getElem?_eq_getElem this])
                    exact hz)
            refine wp_of_value (x := .tuple #[]) (w' := w.setCells b (p + lo * u2.size) vs) ?_ (hn (.tup .nil) (σ.roots.set r' ⟨.row false u2 (app (tk l lo) (repl (dp l lo).length u2.dflt)), ver + 1, anc⟩) G (.tuple #[]) _ h h1 ⟨[], rfl, rfl⟩ h2 (fun e => by cases e))
            simp [execOp, ho, hTs, resolve, invoke, builtin, hrun]
      · cases h
    · cases h
  | _ => cases h
/-- labels of the rows that go into a literal -/
def litTgts (σ : St) (s : Nat) : List (Nat × Operand) → List (Nat × Nat)
  | [] => []
  | (i, x) :: ps => tgtIn σ.roots (cellsOf σ (σ.eval x)) (i * s) ++ litTgts σ s ps
theorem litTgts_rows {s : Nat} : ∀ (ps : List (Nat × Operand)), (litTgts σ s ps).map Prod.fst = partRows σ ps
  | [] => rfl
  | (i, x) :: ps => by
    have := tgtIn_rows (tm := σ.tmps) (Rs := σ.roots) (cellsOf σ (σ.eval x)) (i * s)
    simp only [litTgts, partRows, List.map_append, litTgts_rows ps]
    rw [this]
theorem partRows_row : ∀ (ps : List (Nat × Operand)) (r : Nat), r ∈ partRows σ ps → ∀ q, σ.roots[r]? = some q → isRowK q.k = true
  | (i, x) :: ps, r, h, q, hq => by
    simp only [partRows, List.mem_append] at h
    rcases h with h | h
    · exact rowsIn_row (tm := σ.tmps) _ r h q hq
    · exact partRows_row ps r h q hq
theorem op_buildSlice {T n : Nat} {ps : Array (Nat × Operand)} (hT : TabOk P tab) (ho : o.op = .buildSlice T n ps) (hR : Rel G σ a w) (hn : Nxt false G σ w a o.dst K r next) (h : evOp tab soft Γ call k o σ K = some r) : o.wp P a w next Q := by
  simp only [evOp, ho] at h
  split at h
  · rename_i ts he
    split at h
    · rename_i l hl
      obtain ⟨hok, hKK⟩ := chk_some h
      obtain ⟨hok1, hok2⟩ := and2 hok
      have hok2 := ble_nat hok2
      obtain ⟨e, j, hu, hj, hjc, _⟩ := elemTs_spec hT he
      obtain ⟨I, i1, i2, i3⟩ := (hT e j hj).info
      obtain ⟨I', z, z1, z2, z3⟩ := (hT e j hj).zero
      rw [i1] at z1; cases z1
      have hflat : ts.2.flat = true := hjc ▸ (hT e j hj).flat
      have hzl : (zeroVals ts.2).length = ts.2.size := zero_len _
      have hpos : ts.2.size ≠ 0 := hjc ▸ (hT e j hj).pos
      have hIs : I.size = ts.2.size := by rw [i2, hjc]
      rw [hjc] at z3
      -- the turn of labels
      have htr := litTgts_rows (σ := σ) (s := ts.2.size) ps.toList
      generalize hL : litTgts σ ts.2.size ps.toList = L at htr
      have hnd : ts.1 = true → (L.map Prod.fst).Nodup := fun e => by
        rw [htr]
        rw [e] at hok1
        exact nodup_nodupN.1 (by simpa [eatOk] using hok1)
      obtain ⟨g1, g2⟩ := eat_spec (G := G) (w := w) (own := ts.1) (rs := partRows σ ps.toList) (τ := tauOf ts.1 σ.roots.length L) hR.roots (fun s hs q hq => partRows_row _ s hs q hq) (fun s hs m => by simp [tauOf, lookup_none (htr ▸ hs)]) (fun e s hs m => by
        obtain ⟨k', hk'⟩ := lookup_some (htr ▸ hs)
        simp [tauOf, hk', e])
      -- the cells
      have key : ∀ (ps : List (Nat × Operand)) (l0 l : List ts.2.den) (c0 : List Value), (∀ p ∈ litTgts σ ts.2.size ps, p ∈ L) → elemsOf σ ts.1 ts.2 ps l0 = some l → List.length l0 = n → c0.length = n * ts.2.size →
          (∀ i, i < n → elG (fun _ o => c0[o]?) (cvOf (relab G (tauOf ts.1 σ.roots.length L)) w σ.roots.length ts.1) ts.2 (rd ts.2 l0 i) w.heap.size (i * ts.2.size) (i * ts.2.size)) →
          ∃ c1 : List Value, Instr.fill (fun i => some (i * ts.2.size, ts.2.size)) c0.toArray (ps.map fun (j, x) => (j, a.eval x)) = some c1.toArray ∧ List.length l = n ∧ c1.length = n * ts.2.size ∧
            ∀ i, i < n → elG (fun _ o => c1[o]?) (cvOf (relab G (tauOf ts.1 σ.roots.length L)) w σ.roots.length ts.1) ts.2 (rd ts.2 l i) w.heap.size (i * ts.2.size) (i * ts.2.size) := by
        intro ps
        induction ps with
        | nil => intro l0 l c0 _ h hl hc hel; cases h; exact ⟨c0, rfl, hl, hc, hel⟩
        | cons p ps ih =>
          obtain ⟨j, x⟩ := p
          intro l0 l c0 hp h hl hc hel
          simp only [elemsOf] at h
          split at h
          · rename_i y hy
            obtain ⟨hb, h⟩ := chk_some h
            obtain ⟨hb1, hb2⟩ := and2 hb
            have hb1 := beq_nat hb1
            have hb2 : j < List.length l0 := by
              have : Nat.blt j (List.length l0) = true := hb2
              exact Nat.lt_of_lt_of_le (Nat.lt_succ_self j) (Nat.le_of_ble_eq_true this)
            obtain ⟨vs, e1, e2, e3, e4⟩ := cellsOf_spec (tm := σ.tmps) hR.roots (by rw [hb1]; exact hpos) (hR.eval x)
            have hvl : vs.length = ts.2.size := e2.trans hb1
            have hfit : j * ts.2.size + vs.length ≤ c0.length := by
              rw [hc, hvl]
              have : (j + 1) * ts.2.size ≤ n * ts.2.size := Nat.mul_le_mul_right _ (by omega)
              rw [Nat.add_mul, Nat.one_mul] at this; omega
            have hel' : ∀ i, i < n → elG (fun _ o => (over c0 (j * ts.2.size) vs)[o]?) (cvOf (relab G (tauOf ts.1 σ.roots.length L)) w σ.roots.length ts.1) ts.2 (rd ts.2 (l0.set j y) i) w.heap.size (i * ts.2.size) (i * ts.2.size) := by
              intro i hi
              by_cases hij : i = j
              · subst hij
                have hrd : rd ts.2 (l0.set i y) i = y := by simp [rd, List.getD_eq_getElem?_getD, hb2]
                rw [hrd]
                have hT1 : TauOk σ.roots ts.1 σ.roots.length (tauOf ts.1 σ.roots.length L) (cellsOf σ (σ.eval x)) (i * ts.2.size) := tauOk hnd _ _ (fun p hp' => hp p (List.mem_append_left _ hp'))
                have hz := zero_el (G := relab G (tauOf ts.1 σ.roots.length L)) (w := w) (own := ts.1) (r0 := σ.roots.length) (c := fun _ o => (zeroVals ts.2)[o - i * ts.2.size]?) (b := w.heap.size) ts.2 (i * ts.2.size) (i * ts.2.size) hflat (fun j _ => by simp)
                refine putEl_spec (tm := σ.tmps) (c := fun _ o => (zeroVals ts.2)[o - i * ts.2.size]?) (c' := fun _ o => (over c0 (i * ts.2.size) vs)[o]?) hR.roots ts.2 ts.2.dflt y 0 (i * ts.2.size) (i * ts.2.size) _ vs hy e3 hT1 hz (fun m hm => ?_)
                rw [if_pos ⟨Nat.zero_le _, by omega⟩, get_over hfit, if_pos (by omega), Nat.add_sub_cancel_left, Nat.sub_zero, List.getD_eq_getElem?_getD]
                have hm' : m < vs.length := by omega
                rw [List.getElem?_eq_getElem hm']; rfl
              · have hrd : rd ts.2 (l0.set j y) i = rd ts.2 l0 i := by simp [rd, List.getD_eq_getElem?_getD, List.getElem?_set_ne (Ne.symm hij)]
                rw [hrd]
                refine elG_mono ts.2 _ _ _ _ (fun m v hm e' => ?_) (fun _ _ _ _ g => g) (hel i hi)
                have := el_apart (f := 0) (n := vs.length) hij hm (by omega)
                simp only [get_over hfit]
                rw [if_neg (by omega)]; exact e'
            obtain ⟨c1, f1, f2, f3, f4⟩ := ih (l0.set j y) l (over c0 (j * ts.2.size) vs) (fun p hp' => hp p (List.mem_append_right _ hp')) h (by simpa using hl) (by rw [len_over hfit]; exact hc) hel'
            · refine ⟨c1, ?_, f2, f3, f4⟩
              simp only [List.map_cons, Instr.fill]
              rw [if_neg (by (simp [e1, hvl]) <;> omega), e1, fill_over hfit]
              exact f1
          · cases h
      have hlr : List.length (List.replicate n ts.2.dflt) = n := by simp
      obtain ⟨c1, f1, f2, f3, f4⟩ := key ps.toList (List.replicate n ts.2.dflt) l (madeCells (zeroVals ts.2).toArray (n * ts.2.size)).toList (fun p hp => hL ▸ hp) hl hlr (by simp [size_madeCells]) (fun i hi => by
        have hrd : rd ts.2 (List.replicate n ts.2.dflt) i = ts.2.dflt := by simp [rd, List.getD_eq_getElem?_getD, hi]
        rw [hrd]
        refine zero_el ts.2 _ _ hflat (fun j hj => ?_)
        have hlt : i * ts.2.size + j < n * ts.2.size := lt_row hi (Nat.le_refl _) hj
        rw [made_get _ _ _ _ hzl hpos hlt, Nat.mul_comm, Nat.mul_add_mod, Nat.mod_eq_of_lt hj])
      have hrun : (Instr.buildSlice T n (ps.map fun (i, x) => (i, a.eval x))).run P w = .ok (.slice (some ⟨w.heap.size, 0, none⟩) n n) (w.alloc (.cells c1.toArray e)) := by
        have hps : (ps.map fun (i, x) => (i, a.eval x)).toList = ps.toList.map fun (j, x) => (j, a.eval x) := by simp
        by_cases h0 : n = 0
        · subst h0
          have f1' : Instr.fill (fun i => some (i * ts.2.size, ts.2.size)) #[] (ps.map fun (i, x) => (i, a.eval x)).toList = some c1.toArray := by
            rw [hps]
            have e0 : (madeCells (zeroVals ts.2).toArray (0 * ts.2.size)).toList.toArray = #[] := by simp [madeCells]
            rw [e0] at f1; exact f1
          have e1 : (Array.range 0 : Array Nat) = #[] := rfl
          have f1' : Instr.fill (fun i => some (i * ts.2.size, ts.2.size)) #[] (List.map (fun x => (x.fst, a.eval x.snd)) ps.toList) = some c1.toArray := by simpa using f1'
          simp [Instr.buildSlice, run_underlying hu, sizeOf, typeInfo, i1, hIs, newRow, e1, f1']
        · have hne : ¬ n * I.size = 0 := by rw [hIs]; intro e0; rcases Nat.mul_eq_zero.1 e0 with e1 | e1; (· exact h0 e1); (· exact hpos e1)
          refine run_buildSlice (P := P) w T e n _ c1.toArray I z hu i1 z2 (by rw [hIs]; omega) hne ?_
          rw [hps, hIs, z3]
          rw [Array.toArray_toList] at f1
          exact f1
      obtain ⟨G', k1, k2, k3⟩ := new_row (G := relab G (tauOf ts.1 σ.roots.length L)) (σ0 := eat ts.1 σ (partRows σ ps.toList)) (T := e) (own := ts.1) (l := l) (cells := c1) g1 (by rw [f2]; exact f3) (fun G' w' hF i hi => by
        rw [f2] at hi
        have hlen : (eat ts.1 σ (partRows σ ps.toList)).roots.length = σ.roots.length := eat_len _ _ _
        rw [hlen]
        exact elG_mono ts.2 _ _ _ _ (fun m v hm e' => by simpa using e') (fun k t x v g => cvOf_keep ts.1 (vw_free (hF .free)) (fun _ => hF _) t x v g) (f4 i hi))
      rw [eat_len, f2] at k3
      have hK' : K (.sl σ.roots.length 0) ⟨σ.tmps, (newRoot (eat ts.1 σ (partRows σ ps.toList)) (.row ts.1 ts.2 l)).roots⟩ = some r := by
        have e0 : newRoot (eat ts.1 σ (partRows σ ps.toList)) (.row ts.1 ts.2 l) = ⟨σ.tmps, (newRoot (eat ts.1 σ (partRows σ ps.toList)) (.row ts.1 ts.2 l)).roots⟩ := by simp [newRoot, addRoots, eat_tmps]
        rw [← e0]; exact hKK
      refine wp_of_value (x := .slice (some ⟨w.heap.size, 0, none⟩) n n) ?_ (hn _ _ G' _ _ hK' k1 k3 (g2.trans k2) (fun e => by cases e))
      simp only [execOp, ho, Sem.run_bind, hrun]
      rfl
    · cases h
  · cases h
end
end
end Go.Proofs.YtpihkhknehadbaaGreat.Eng
