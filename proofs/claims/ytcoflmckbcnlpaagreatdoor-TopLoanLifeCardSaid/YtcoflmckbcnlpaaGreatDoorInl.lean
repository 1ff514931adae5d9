/-
  Calls that go on in the rows of the one that calls: what the callee does to them, and regions that hold such calls. Conditions: those that each theorem states.
-/
import Derived.Test.YtcoflmckbcnlpaaGreatDoorGCon
namespace Go.Proofs.YtcoflmckbcnlpaaGreatDoor
open Go.RowKit
set_option maxRecDepth 100000
def StH (P : Program) (M0 : Nat → Prop) (w0 : Root) (φ : Phi) (hp : Nat → Option Row1) (nx : Nat) (w : World) : Prop :=
  St P M0 0 w0 (fun j => nx ≤ j) φ ⟨fun _ => .und, hp, nx⟩ { tmps := #[], defers := w0.df } w ∧ ∀ j, nx ≤ j → hp j = none
def ConI (P : Program) (C : World → Prop) (f : FuncId) (us : List AV) (hp : Nat → Option Row1) (nx : Nat) (R : AV → (Nat → Option Row1) → Nat → Prop) : Prop :=
  Callable P f ∧ ∀ (M0 : Nat → Prop) (w0 : Root) (φ : Phi) (w : World) (args : List Value), C w0.toWorld → StH P M0 w0 φ hp nx w → RepL φ (Mo φ hp M0) w us args →
    Calls P f args.toArray w fun e w' => ∃ v u hp' nx' φ', e = .returned v ∧ R u hp' nx' ∧ nx ≤ nx' ∧ StH P M0 w0 φ' hp' nx' w' ∧ Rep φ' (Mo φ' hp' M0) w' u v
section
variable {P : Program} {C : World → Prop} {w0 : Root} {M0 : Nat → Prop} {N : Nat} {φ : Phi} {σ : AS} {a : Act} {w : World} {F : Nat → Prop}
theorem St.re (h : St P M0 N w0 F φ σ a w) {N' : Nat} {w1 : Root} {σ' : AS} {a' : Act} (e1 : w1.toWorld = w0.toWorld) (e2 : w1.J = w0.J) (e3 : w1.wE = w0.wE) (hh : σ'.hp = σ.hp) (hd : a'.defers = w1.df) (hs : a'.tmps.size = N')
    (ht : ∀ t, Rep φ (Mo φ σ.hp M0) w (σ'.tm t) (a'.tmps.getD t undef)) (hg : ∀ u v, w1.gs u v → Rep φ (Mo φ σ.hp M0) w u v) : St P M0 N' w1 F φ σ' a' w := by
  obtain ⟨W0, J0, E0, g0, d0⟩ := w0
  obtain ⟨W1, J1, E1, g1, d1⟩ := w1
  dsimp only at e1 e2 e3
  subst e1 e2 e3
  obtain ⟨tm, hp, nx⟩ := σ
  obtain ⟨tm', hp', nx'⟩ := σ'
  dsimp only at hh
  subst hh
  exact ⟨h.below, hd, hs, ht, h.hpr, h.hpm, h.inj, h.fresh, h.m0, h.ones, h.jk, h.jo, h.js, hg⟩
def Root.wait (w0 : Root) (σ : AS) (a : Act) : Root := { w0 with gs := fun u v => w0.gs u v ∨ ∃ t, u = σ.tm t ∧ v = a.tmps.getD t undef }
theorem StH.wait {nx : Nat} (h : St P M0 N w0 (fun j => nx ≤ j) φ σ a w) (hn : ∀ j, nx ≤ j → σ.hp j = none) : StH P M0 (w0.wait σ a) φ σ.hp nx w :=
  ⟨h.re rfl rfl rfl rfl rfl rfl (fun t => by simp [Rep, Array.getD]) fun u v hg => by
    rcases hg with hg | ⟨t, rfl, rfl⟩
    · exact h.gh u v hg
    · exact h.tmr t, hn⟩
theorem StH.back {nx' : Nat} {φ' : Phi} {hp' : Nat → Option Row1} {w' : World} (h : St P M0 N w0 F φ σ a w) (k : StH P M0 (w0.wait σ a) φ' hp' nx' w') (m : Nat) : St P M0 N w0 (fun j => nx' ≤ j) φ' ⟨σ.tm, hp', m⟩ a w' :=
  k.1.re rfl rfl rfl rfl h.defers h.size (fun t => k.1.gh _ _ (.inr ⟨t, rfl, rfl⟩)) fun u v hg => k.1.gh u v (.inl hg)
def SemL (P : Program) (C : World → Prop) (ops : Array Oper) (Q : Exit → AS → Prop) (rest : List Oper) (b i : Nat) (σ : AS) : Prop :=
  ∀ (M0 : Nat → Prop) (N : Nat) (w0 : Root) (a : Act) (w : World) (ws : List Nat) (σ0 : AS), C w0.toWorld → (∀ o ∈ rest, ∀ t, o.dst = some t → t < N) → (∀ o ∈ rest, ∀ t, o.dst = some t → t ∈ ws) → SeqSt P M0 N w0 b i σ a w → σ.nx ≤ b + i → Fr ws σ0 σ →
    wpList P ops (fun e a' w' => ∃ σ', Q e σ' ∧ SeqSt P M0 N w0 σ'.nx 0 σ' a' w' ∧ Fr ws σ0 σ') rest a w
theorem semL_nil {ops : Array Oper} {Q : Exit → AS → Prop} {b i : Nat} (h : Q .normal { σ with nx := b + i }) : SemL P C ops Q [] b i σ := by
  intro M0 N w0 a w ws σ0 _ _ _ st hn hf
  obtain ⟨⟨φ, s1⟩, s2⟩ := st
  exact ⟨_, h, ⟨⟨φ, s1.re rfl rfl rfl rfl s1.defers s1.size s1.tmr s1.gh⟩, s2⟩, hf.1, Nat.le_trans hf.2 hn⟩
theorem aop_stepN (hC : ∀ w w', C w → Below w.heap.size w w' → C w') (hc0 : C w0) {K : AS → Prop} {Q : Exit → Act → World → Prop} {b i : Nat} {draw last : Bool} {o : Oper} (hd : ∀ t, o.dst = some t → t < N) (h : aop P C draw last (b + i) o K σ) (st : SeqSt P M0 N w0 b i σ a w)
    {KK : Act → World → Prop} (hk : ∀ σ' a' w', K σ' → SeqSt P M0 N w0 b (i + 1) σ' a' w' → (∀ ws, (∀ t, o.dst = some t → t ∈ ws) → Fr ws σ σ') → σ'.nx = σ.nx → KK a' w') : o.wp P a w KK Q := by
  obtain ⟨⟨φ, st1⟩, st2⟩ := st
  obtain ⟨u, f, ⟨_, h1⟩, h2, h3⟩ := aval_lin (pp := fun _ => True) (fun _ _ _ _ => trivial) h
  refine aval_sound (hp := σ.hp) (k := fun u' f' => u' = u ∧ f' = f) ⟨st1, Nat.le_refl _, fun _ β _ h _ => ⟨β, h, wkR_refl β⟩, hd⟩ ?_ hC hc0 (fun x _ => st1.evr x) h3
  rintro u' f' ⟨rfl, rfl⟩ φ' a' w' st'
  refine hk _ _ _ h1 ⟨⟨φ', (st'.put' fun τ ht => st_hp ht).sub fun j hj => ⟨by omega, by omega⟩⟩, fun j hj => ?_⟩ (fun ws hws => ?_) (by rw [put_nx])
  · rw [put_hp]
    exact md_none h2 (st2 j (by omega)) (by omega)
  · exact (show Fr ws σ { σ with hp := (f'.md draw).app (b + i) σ.hp } from ⟨fun _ _ => rfl, Nat.le_refl _⟩).trans (put_fr _ _ _ hws)
theorem semL_ops (B : Base P C) {ops : Array Oper} {Q : Exit → AS → Prop} {rest : List Oper} {b : Nat} : ∀ (pre : List Oper) (i : Nat) (σ : AS), aops P C ops 0 b i pre (fun σ1 => SemL P C ops Q rest b (i + pre.length) σ1) σ → SemL P C ops Q (pre ++ rest) b i σ
  | [], i, σ, h => h
  | o :: pre, i, σ, h => by
    intro M0 N w0 a w ws σ0 hC hd hw st hn hf
    have hd' : ∀ x ∈ pre ++ rest, ∀ t, x.dst = some t → t < N := fun x hx => hd x (List.mem_cons_of_mem _ hx)
    have hw' : ∀ x ∈ pre ++ rest, ∀ t, x.dst = some t → t ∈ ws := fun x hx => hw x (List.mem_cons_of_mem _ hx)
    have go : ∀ σ1 a1 w1, aops P C ops 0 b (i + 1) pre (fun σ1 => SemL P C ops Q rest b (i + (o :: pre).length) σ1) σ1 → SeqSt P M0 N w0 b (i + 1) σ1 a1 w1 → Fr ws σ σ1 → σ1.nx = σ.nx →
        wpList P ops (fun e a' w' => ∃ σ', Q e σ' ∧ SeqSt P M0 N w0 σ'.nx 0 σ' a' w' ∧ Fr ws σ0 σ') (pre ++ rest) a1 w1 := by
      intro σ1 a1 w1 h1 st1 hf1 hx
      exact semL_ops B pre (i + 1) σ1 (by rwa [show i + (o :: pre).length = i + 1 + pre.length by rw [List.length_cons]; omega] at h1) M0 N w0 a1 w1 ws σ0 hC hd' hw' st1 (by omega) (hf.trans hf1)
    have hhd : ∀ t, o.dst = some t → t ∈ ws := hw o List.mem_cons_self
    have hdo := hd o List.mem_cons_self
    unfold aops at h
    rw [List.cons_append]
    unfold wpList
    split at h
    · rename_i hg
      rw [if_pos (by simp [Region.wanted, hg])]
      exact .inl (aop_stepN B.on hC hdo h st fun σ' a' w' h1 st1 hf => go σ' a' w' h1 st1 (hf _ hhd))
    · rename_i g want hg
      obtain ⟨⟨φ, st1⟩, st2⟩ := st
      rcases h with ⟨t, h1, h⟩ | ⟨h1, h⟩
      rotate_left
      · cases hb : (ops[g]?).bind (·.dst) with
        | none => rw [hb] at h1; cases h1
        | some d =>
          rw [hb] at h1
          have hy := yielded_und (ops := ops) st1 hb (by simpa using h1)
          rw [if_neg (by simp [Region.wanted, hg, hy])]
          exact go _ _ _ h (skip_step hdo ⟨⟨φ, st1⟩, st2⟩) (put_fr _ _ _ hhd) (by rw [put_nx])
      cases hb : (ops[g]?).bind (·.dst) with
      | none => rw [hb] at h1; cases h1
      | some d =>
        rw [hb] at h1
        have hy := yielded_of (ops := ops) st1 hb (by simpa using h1)
        by_cases ht : t = want
        · rw [if_pos ht] at h
          rw [if_pos (by simp [Region.wanted, hg, hy, ht])]
          exact .inl (aop_stepN B.on hC hdo h ⟨⟨φ, st1⟩, st2⟩ fun σ' a' w' h1 st1 hf => go σ' a' w' h1 st1 (hf _ hhd))
        · rw [if_neg ht] at h
          rw [if_neg (by simp [Region.wanted, hg, hy, ht])]
          exact go _ _ _ h (skip_step hdo ⟨⟨φ, st1⟩, st2⟩) (put_fr _ _ _ hhd) (by rw [put_nx])
theorem inl_core {ops : Array Oper} {Q : Exit → AS → Prop} {rest : List Oper} {o : Oper} {b i : Nat} {f : FuncId} {ps : List AV} {R : AV → (Nat → Option Row1) → Nat → Prop} (hg : o.guard = none)
    (hcon : ConI P C f ps σ.hp (b + i) R)
    (henter : ∀ (M0 : Nat → Prop) (φ : Phi) (a : Act) (w : World), (∀ x, Rep φ (Mo φ σ.hp M0) w (σ.ev x) (a.eval x)) → ∃ vs : List Value, RepL φ (Mo φ σ.hp M0) w ps vs ∧ (execOp a.eval o).run P w = .ok (.enter f vs.toArray) w)
    (hk : ∀ u hp' nx', R u hp' nx' → b + i ≤ nx' → SemL P C ops Q rest nx' (i + 1) ((⟨σ.tm, hp', nx'⟩ : AS).put o.dst u)) : SemL P C ops Q (o :: rest) b i σ := by
  intro M0 N w0 a w ws σ0 hC hd hw st hn hf
  obtain ⟨⟨φ, s1⟩, s2⟩ := st
  obtain ⟨vs, hvs, hrun⟩ := henter M0 φ a w (fun x => s1.evr x)
  have hhd : ∀ t, o.dst = some t → t ∈ ws := hw o List.mem_cons_self
  have hdo := hd o List.mem_cons_self
  unfold wpList
  rw [if_pos (by simp [Region.wanted, hg])]
  refine .inl ?_
  unfold Oper.wp
  rw [hrun]
  have hwait := StH.wait s1 s2
  refine (hcon.2 M0 (w0.wait σ a) φ w vs hC hwait hvs).mono ?_
  rintro e w' ⟨v, u, hp', nx', φ', rfl, hR, hle, hst, hu⟩
  have hbk := StH.back s1 hst nx'
  have := hk u hp' nx' hR hle
  refine this M0 N w0 _ w' ws σ0 hC (fun x hx => hd x (List.mem_cons_of_mem _ hx)) (fun x hx => hw x (List.mem_cons_of_mem _ hx)) ⟨⟨φ', ?_⟩, fun j hj => ?_⟩ ?_ ?_
  · exact (hbk.put hu o.dst hdo).sub fun j hj => by omega
  · rw [put_hp]
    exact hst.2 j (by omega)
  · rw [put_nx]
    show nx' ≤ _
    omega
  · refine hf.trans ((show Fr ws σ (⟨σ.tm, hp', nx'⟩ : AS) from ⟨fun _ _ => rfl, ?_⟩).trans (put_fr _ _ _ hhd))
    show σ.nx ≤ nx'
    omega
theorem inl_fn {ops : Array Oper} {Q : Exit → AS → Prop} {rest : List Oper} {o : Oper} {b i : Nat} {c : Call} {f : FuncId} {ps : List AV} {R : AV → (Nat → Option Row1) → Nat → Prop} (hg : o.guard = none) (ho : o.op = .call c) (hcal : c.callee = .value (.func f))
    (hps : c.args.toList.map σ.ev = ps) (hcon : ConI P C f ps σ.hp (b + i) R)
    (hk : ∀ u hp' nx', R u hp' nx' → b + i ≤ nx' → SemL P C ops Q rest nx' (i + 1) ((⟨σ.tm, hp', nx'⟩ : AS).put o.dst u)) : SemL P C ops Q (o :: rest) b i σ := by
  refine inl_core hg hcon (fun M0 φ a w hx => ⟨c.args.toList.map a.eval, by rw [← hps]; exact reps fun x _ => hx x, ?_⟩) hk
  have hae : (c.args.toList.map a.eval).toArray = c.args.map a.eval := by apply Array.ext'; simp
  rw [hae, ← enter_run hcon.1 (c.args.map a.eval) w]
  simp [execOp, ho, resolve, hcal, Act.eval, Deferred.ofValue, invoke]
theorem awp_inl {ops : Array Oper} {Q : Exit → AS → Prop} {r : Nat} (h : SemL P C ops Q ops.toList σ.nx 0 σ) : awp P C (.region r ops false) Q σ := by
  refine .inr (.inr ?_)
  intro M0 N w0 a w hC hf st
  refine wp_region_list ?_
  refine h M0 N w0 a w _ σ hC (fun o ho t ht => ?_) (fun o ho t ht => ?_) st (by omega) (Fr.refl _ _)
  · have := List.all_eq_true.1 hf o ho
    rw [ht] at this
    simpa using this
  · exact List.mem_filterMap.2 ⟨o, ho, ht⟩
def aretI (P : Program) (rs : Array ResultVar) (σ : AS) (k : AV → Prop) : Prop :=
  match rs.toList with
  | [] => k (.tup [])
  | [r] => ares1 P σ r k
  | [r, s] => ares1 P σ r fun u => ares1 P σ s fun v => k (.tup [u, v])
  | [r, s, q] => ares1 P σ r fun u => ares1 P σ s fun v => ares1 P σ q fun x => k (.tup [u, v, x])
  | [r, s, q, z] => ares1 P σ r fun u => ares1 P σ s fun v => ares1 P σ q fun x => ares1 P σ z fun y => k (.tup [u, v, x, y])
  | _ => False
theorem aretI_run {fn : Func} {k : AV → Prop} (st : St P M0 N w0 F φ σ a w) (h : aretI P fn.results σ k) : ∃ u v, k u ∧ Rep φ (Mo φ σ.hp M0) w u v ∧ (results fn a.tmps).run P w = .ok v w := by
  unfold aretI at h
  split at h
  · rename_i hr
    have hra : fn.results = #[] := by apply Array.ext'; simpa using hr
    refine ⟨_, .tuple #[], h, by simp only [Rep]; exact ⟨[], rfl, RepL.nil⟩, ?_⟩
    rw [results_eq, hra]; simp
  · rename_i r hr
    have hra : fn.results = #[r] := by apply Array.ext'; simpa using hr
    obtain ⟨u, v, h1, h2, h3⟩ := ares1_run st h
    refine ⟨u, v, h1, h2, ?_⟩
    rw [results_eq, hra]; simp [h3]
  · rename_i r s hr
    have hra : fn.results = #[r, s] := by apply Array.ext'; simpa using hr
    obtain ⟨u, v, h, h2, h3⟩ := ares1_run st h
    obtain ⟨u2, v2, h, h4, h5⟩ := ares1_run st h
    refine ⟨_, .tuple #[v, v2], h, by simp only [Rep]; exact ⟨[v, v2], rfl, RepL.cons h2 (RepL.cons h4 RepL.nil)⟩, ?_⟩
    rw [results_eq, hra]; simp [h3, h5]
  · rename_i r s q hr
    have hra : fn.results = #[r, s, q] := by apply Array.ext'; simpa using hr
    obtain ⟨u, v, h, h2, h3⟩ := ares1_run st h
    obtain ⟨u2, v2, h, h4, h5⟩ := ares1_run st h
    obtain ⟨u3, v3, h, h6, h7⟩ := ares1_run st h
    refine ⟨_, .tuple #[v, v2, v3], h, by simp only [Rep]; exact ⟨[v, v2, v3], rfl, RepL.cons h2 (RepL.cons h4 (RepL.cons h6 RepL.nil))⟩, ?_⟩
    rw [results_eq, hra]; simp [h3, h5, h7]
  · rename_i r s q z hr
    have hra : fn.results = #[r, s, q, z] := by apply Array.ext'; simpa using hr
    obtain ⟨u, v, h, h2, h3⟩ := ares1_run st h
    obtain ⟨u2, v2, h, h4, h5⟩ := ares1_run st h
    obtain ⟨u3, v3, h, h6, h7⟩ := ares1_run st h
    obtain ⟨u4, v4, h, h8, h9⟩ := ares1_run st h
    refine ⟨_, .tuple #[v, v2, v3, v4], h, by simp only [Rep]; exact ⟨[v, v2, v3, v4], rfl, RepL.cons h2 (RepL.cons h4 (RepL.cons h6 (RepL.cons h8 RepL.nil)))⟩, ?_⟩
    rw [results_eq, hra]; simp [h3, h5, h7, h9]
  · exact h.elim
theorem con_inl (B : Base P C) {f : FuncId} {fn : Func} {c : Code} (hf : P.funcs[f]? = some fn) (hb : fn.body = some c) (hnm : (fn.name == "runtime.NumGoroutine") = false) {us : List AV} (hfit : fits fn.ntmps c = true) (hn : us.length ≤ fn.ntmps) {hp : Nat → Option Row1} {nx : Nat} {R : AV → (Nat → Option Row1) → Nat → Prop}
    (h : awp P C c (aend fun σ => aretI P fn.results σ fun u => R u σ.hp σ.nx) ⟨fun t => us.getD t .junk, hp, nx⟩) : ConI P C f us hp nx R := by
  refine ⟨⟨fn, hf, by rw [hb]; rfl, hnm⟩, fun M0 w0 φ w args hC st hr => ?_⟩
  have hl := RepL.len hr
  have st0 : StC P M0 fn.ntmps { w0 with df := [] } ⟨fun t => us.getD t .junk, hp, nx⟩ { tmps := args.toArray ++ Array.replicate (fn.ntmps - args.toArray.size) undef, defers := [] } w := by
    refine ⟨⟨φ, (st.1.re rfl rfl rfl rfl rfl (by simp; omega) (fun t => ?_) st.1.gh)⟩, st.2⟩
    show Rep φ (Mo φ hp M0) w (us.getD t .junk) _
    rcases Nat.lt_or_ge t us.length with hlt | hge
    · obtain ⟨v, h1, h2⟩ := hr.get (List.getElem?_eq_getElem hlt)
      rw [List.getD_eq_getElem?_getD, List.getElem?_eq_getElem hlt]
      have : (args.toArray ++ Array.replicate (fn.ntmps - args.toArray.size) undef).getD t undef = v := by
        rw [Array.getD_eq_getD_getElem?, Array.getElem?_append_left (by simp; omega)]
        simp [h1]
      rw [this]
      exact h2
    · rw [List.getD_eq_getElem?_getD, List.getElem?_eq_none hge]
      simp only [Option.getD_none, Rep]
  refine calls_of_wp hf hb (wp_mono (awp_sound B.mixed B.on (w0 := { w0 with df := [] }) hC c _ _ _ _ h hfit st0) ?_)
  rintro e a' w' ⟨σ', hq, ⟨⟨φ', s1⟩, s2⟩, hfr⟩
  have fin : (aretI P fn.results σ' fun u => R u σ'.hp σ'.nx) → bodyPost P fn (fun e w' => ∃ v u hp' nx' φ', e = .returned v ∧ R u hp' nx' ∧ nx ≤ nx' ∧ StH P M0 w0 φ' hp' nx' w' ∧ Rep φ' (Mo φ' hp' M0) w' u v) .ret a' w' := by
    intro hq
    obtain ⟨u, v, h1, h2, h3⟩ := aretI_run s1 hq
    refine ⟨s1.defers, v, h3, v, u, σ'.hp, σ'.nx, φ', rfl, h1, hfr.2, ⟨(St.re (N' := 0) (w1 := w0) (σ' := ⟨fun _ => .und, σ'.hp, σ'.nx⟩) (a' := { tmps := #[], defers := w0.df }) s1 rfl rfl rfl rfl rfl rfl (fun t => by simp [Rep, Array.getD]) s1.gh).sub fun j hj => by omega, fun j hj => s2 j (by omega)⟩, h2⟩
  cases e with
  | normal => exact fin hq
  | ret => exact fin hq
  | exit i => exact hq.elim
  | goto l => exact hq.elim
  | panic ch => exact hq.elim
  | outgrown => exact hq.elim
end
end Go.Proofs.YtcoflmckbcnlpaaGreatDoor