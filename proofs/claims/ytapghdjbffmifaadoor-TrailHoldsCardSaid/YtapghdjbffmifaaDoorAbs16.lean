/-
  A function's contract by a walk of its body over values without memory. Conditions: those that each theorem states.
-/
import Derived.Test.YtapghdjbffmifaaDoorAbs15
namespace Go.Proofs.YtapghdjbffmifaaDoor
open Go.RowKit
set_option maxRecDepth 100000

/-- What a result variable gives. -/
def ares1 (P : Program) (σ : AS) (r : ResultVar) (k : AV → Prop) : Prop :=
  match r with
  | .tmp t => k (σ.tm t)
  | .cell x ty => match σ.tm x with
    | .pt b j off => ∃ β e, σ.hp b = some β ∧ β.es[j]? = some e ∧ ldCell P ty e off (fun u _ => k u)
    | _ => False
/-- All results, as they are handed on. -/
def aret (P : Program) (rs : Array ResultVar) (σ : AS) (k : AV → Prop) : Prop :=
  match rs.toList with
  | [r] => ares1 P σ r fun u => ∃ u' ids, cl σ.hp u = some (u', ids) ∧ k u'
  | [r, s] => ares1 P σ r fun u => ares1 P σ s fun v => ∃ us ids, cls σ.hp [u, v] = some (us, ids) ∧ k (.tup us)
  | [r, s, q] => ares1 P σ r fun u => ares1 P σ s fun v => ares1 P σ q fun x => ∃ us ids, cls σ.hp [u, v, x] = some (us, ids) ∧ k (.tup us)
  | _ => False
/-- A result that is a new row. -/
def afresh (rs : Array ResultVar) (σ : AS) (k : Nat → List (List AV) → Prop) : Prop :=
  match rs.toList with
  | [.tmp t] => match σ.tm t with
    | .own b => ∃ β, σ.hp b = some β ∧ β.mu = true ∧ (β.es.all (·.all p0)) = true ∧ k β.ty (β.es.map (·.map z0))
    | _ => False
  | _ => False
def aend (k : AS → Prop) : Exit → AS → Prop
  | .normal, σ => k σ
  | .ret, σ => k σ
  | _, _ => False

section
variable {P : Program} {C : World → Prop} {w0 : World} {M0 : Nat → Prop} {N : Nat} {φ : Phi} {σ : AS} {a : Act} {w : World} {F : Nat → Prop}
theorem ldCell_res {t : Nat} {cs : List AV} {off : Nat} {k : AV → Prop} (hk : ldCell P t cs off (fun u _ => k u)) {M : Nat → Prop} {vs : List Value} (hv : RepL φ M w cs vs) (h1 : ∀ u ∈ vs, u.oneCell' = true) {g o : Nat} (hat : At w g o vs) :
    ∃ u v, k u ∧ Rep φ M w u v ∧ (loadVar t ⟨g, o + off, none⟩).run P w = .ok v w := by
  unfold ldCell at hk
  split at hk
  · rename_i hg
    obtain ⟨⟨h2, h3⟩, hk⟩ := hk
    refine ⟨_, _, hk, ?_, run_loadVar_agg hat hg h2 (by rw [RepL.len hv]; exact h3)⟩
    simp only [Rep]
    exact ⟨_, rfl, fun u hu => h1 u (List.mem_of_mem_drop (List.mem_of_mem_take hu)), (hv.drop off).take _⟩
  · obtain ⟨hn, u, h2, hk⟩ := hk
    obtain ⟨v, h3, h4⟩ := hv.get h2
    exact ⟨u, v, hk, h4, run_loadVar_one (hat _ _ h3) hn⟩
def resS (tmps : Array Value) : ResultVar → Sem Value
  | .tmp t => pure (tmps.getD t undef)
  | .cell x ty => do loadVar ty (← asAddr (tmps.getD x undef))
theorem results_eq (fn : Func) (tmps : Array Value) : results fn tmps = (do let vs ← fn.results.mapM (resS tmps); pure (if h : vs.size = 1 then vs[0] else .tuple vs)) := by
  have e : (fun r : ResultVar => match r with | .tmp t => (pure (tmps.getD t undef) : Sem Value) | .cell a t => do loadVar t (← asAddr (tmps.getD a undef))) = resS tmps := by
    funext r; cases r <;> rfl
  rw [← e]; rfl
theorem ares1_run (st : St P M0 N w0 F φ σ a w) {r : ResultVar} {k : AV → Prop} (h : ares1 P σ r k) : ∃ u v, k u ∧ Rep φ (Mo φ σ.hp M0) w u v ∧
    (resS a.tmps r).run P w = .ok v w := by
  unfold ares1 at h
  cases r with
  | tmp t => exact ⟨_, _, h, st.tmr t, rfl⟩
  | cell x ty =>
    dsimp only at h ⊢
    have hx := st.tmr x
    split at h
    · rename_i i j off heq
      rw [heq] at hx
      simp only [Rep] at hx
      obtain ⟨hd, sz, g1, g2⟩ := hx
      obtain ⟨β, e, h1, h2, h3⟩ := h
      obtain ⟨_, xs, h5, h6⟩ := st.hpr i β _ h1 g1
      dsimp only at h5 h6
      obtain ⟨p, q, r, q1, q2, q3, q4, q5, _, _⟩ := h6.get h2
      by_cases hn : xs = []
      · have hq : q = [] := by rw [hn] at q1; simp at q1; exact q1.2.1
        have he0 : e = [] := List.eq_nil_of_length_eq_zero (by rw [← RepL.len q5, hq]; rfl)
        subst he0
        unfold ldCell at h3
        split at h3
        · simp at h3; omega
        · simp at h3
      · obtain ⟨g, c, _, _, _, _, r5, _, _, r8, _⟩ := own_at h5 hn
        rw [r5] at g2
        have hat : At w g (j * sz) q := by
          rw [q1] at r8
          have := r8.part
          rwa [q2, Nat.zero_add] at this
        obtain ⟨u, v, k1, k2, k3⟩ := ldCell_res h3 q5 q4 hat
        exact ⟨u, v, k1, k2, by simp only [resS]; rw [g2]; simp [asAddr, k3]⟩
    · exact h.elim

theorem m0_of {ids : List Nat} {u : AV} {v : Value} (h : Rep phi0 (Mf φ σ.hp M0 ids) w u v) : Rep phi0 M0 w u v :=
  Rep.keep (φ := phi0) (φ' := phi0) (M := Mf φ σ.hp M0 ids) (M' := M0) (fun _ hlt hn => ⟨fun h => hn (.inl h), hlt, rfl⟩) (Ext.refl _) u v h
theorem m0L_of {ids : List Nat} {us : List AV} {vs : List Value} (h : RepL phi0 (Mf φ σ.hp M0 ids) w us vs) : RepL phi0 M0 w us vs :=
  RepL.keep (φ := phi0) (φ' := phi0) (M := Mf φ σ.hp M0 ids) (M' := M0) (fun _ hlt hn => ⟨fun h => hn (.inl h), hlt, rfl⟩) (Ext.refl _) us vs h

theorem aret_run (st : St P M0 N w0 F φ σ a w) {fn : Func} {k : AV → Prop} (h : aret P fn.results σ k) : ∃ r v, k r ∧ Rep phi0 M0 w r v ∧ (results fn a.tmps).run P w = .ok v w := by
  have hself : ∀ b β v, σ.hp b = some β → φ b = some v → σ.hp b = some β := fun _ _ _ h _ => h
  unfold aret at h
  split at h
  · rename_i r hr
    have hra : fn.results = #[r] := by apply Array.ext'; simpa using hr
    obtain ⟨u, v, ⟨u', ids, h1, hk⟩, h2, h3⟩ := ares1_run st h
    refine ⟨u', v, hk, m0_of (cl_rep st hself h2 h1 fun _ h => h), ?_⟩
    rw [results_eq, hra]
    simp [h3]
  · rename_i r s hr
    have hra : fn.results = #[r, s] := by apply Array.ext'; simpa using hr
    obtain ⟨u, v, h, h2, h3⟩ := ares1_run st h
    obtain ⟨u2, v2, ⟨us, ids, h1, hk⟩, h4, h5⟩ := ares1_run st h
    refine ⟨.tup us, .tuple #[v, v2], hk, ?_, ?_⟩
    · simp only [Rep]
      exact ⟨[v, v2], rfl, m0L_of (cls_rep st hself (RepL.cons h2 (RepL.cons h4 RepL.nil)) h1 fun _ h => h)⟩
    · rw [results_eq, hra]
      simp [h3, h5]
  · rename_i r s q hr
    have hra : fn.results = #[r, s, q] := by apply Array.ext'; simpa using hr
    obtain ⟨u, v, h, h2, h3⟩ := ares1_run st h
    obtain ⟨u2, v2, h, h4, h5⟩ := ares1_run st h
    obtain ⟨u3, v3, ⟨us, ids, h1, hk⟩, h6, h7⟩ := ares1_run st h
    refine ⟨.tup us, .tuple #[v, v2, v3], hk, ?_, ?_⟩
    · simp only [Rep]
      exact ⟨[v, v2, v3], rfl, m0L_of (cls_rep st hself (RepL.cons h2 (RepL.cons h4 (RepL.cons h6 RepL.nil))) h1 fun _ h => h)⟩
    · rw [results_eq, hra]
      simp [h3, h5, h7]
  · exact h.elim

/-- The frame at the beginning. -/
def init (us : List AV) : AS := ⟨fun t => us.getD t .junk, fun _ => none, 0⟩
theorem init_st {us : List AV} {args : List Value} {n : Nat} (hM : ∀ b, M0 b → b < w.heap.size) (h : RepL phi0 M0 w us args) (hn : us.length ≤ n) :
    StC P M0 n w (init us) { tmps := args.toArray ++ Array.replicate (n - args.toArray.size) undef, defers := [] } w := by
  have hl := RepL.len h
  have hMo : Mo phi0 (init us).hp M0 = M0 := by
    funext b
    apply propext
    exact ⟨fun h => h.elim (fun h => h) fun ⟨i, β, v, h1, _⟩ => (by cases h1), .inl⟩
  refine ⟨⟨phi0, Below.refl _ _, rfl, ?_, fun t => ?_, fun i β v h1 => (by cases h1), fun i j β γ u v b h1 => (by cases h1), fun _ _ => rfl, hM, fun i v h1 => (by cases h1)⟩, fun _ _ => rfl⟩
  · simp; omega
  · rw [hMo]
    show Rep phi0 M0 w (us.getD t .junk) _
    rcases Nat.lt_or_ge t us.length with hlt | hge
    · obtain ⟨v, h1, h2⟩ := h.get (List.getElem?_eq_getElem hlt)
      rw [List.getD_eq_getElem?_getD, List.getElem?_eq_getElem hlt]
      have : (args.toArray ++ Array.replicate (n - args.toArray.size) undef).getD t undef = v := by
        rw [Array.getD_eq_getD_getElem?, Array.getElem?_append_left (by simp; omega)]
        simp [h1]
      rw [this]
      exact h2
    · rw [List.getD_eq_getElem?_getD, List.getElem?_eq_none hge]
      simp only [Option.getD_none, Rep]

structure Base (P : Program) (C : World → Prop) : Prop where
  mixed : P.follows .mixedOrders = true
  on : ∀ w w', C w → Below w.heap.size w w' → C w'

/-- A contract: the body, walked. -/
theorem con_val (B : Base P C) {f : FuncId} {fn : Func} {c : Code} (hf : P.funcs[f]? = some fn) (hb : fn.body = some c) (hnm : (fn.name == "runtime.NumGoroutine") = false) {us : List AV} (hfit : fits fn.ntmps c = true) (hn : us.length ≤ fn.ntmps) {r : AV}
    (h : awp P C c (aend fun σ => aret P fn.results σ fun u => u = r) (init us)) : Con P C f us (.val r) := by
  refine ⟨⟨fn, hf, by rw [hb]; rfl, hnm⟩, fun M w args hM hc hr => ?_⟩
  refine calls_of_wp hf hb (wp_mono (awp_sound B.mixed B.on hc c _ _ _ _ h hfit (init_st hM hr hn)) ?_)
  rintro e a' w' ⟨σ', hq, ⟨⟨φ, st⟩, _⟩, _⟩
  have fin : (aret P fn.results σ' fun u => u = r) → bodyPost P fn (fun e w' => ∃ v, e = .returned v ∧ Rep phi0 M w' r v ∧ Below w.heap.size w w') .ret a' w' := by
    intro hq
    obtain ⟨r', v, rfl, h2, h3⟩ := aret_run st hq
    exact ⟨st.defers, v, h3, v, rfl, h2, st.below⟩
  cases e with
  | normal => exact fin hq
  | ret => exact fin hq
  | exit i => exact hq.elim
  | goto l => exact hq.elim
  | panic ch => exact hq.elim
  | outgrown => exact hq.elim
theorem con_fresh (B : Base P C) {f : FuncId} {fn : Func} {c : Code} (hf : P.funcs[f]? = some fn) (hb : fn.body = some c) (hnm : (fn.name == "runtime.NumGoroutine") = false) {us : List AV} (hfit : fits fn.ntmps c = true) (hn : us.length ≤ fn.ntmps) {e : Nat} {es : List (List AV)}
    (h : awp P C c (aend fun σ => afresh fn.results σ fun e' es' => e' = e ∧ es' = es) (init us)) : Con P C f us (.fresh e es) := by
  refine ⟨⟨fn, hf, by rw [hb]; rfl, hnm⟩, fun M w args hM hc hr => ?_⟩
  refine calls_of_wp hf hb (wp_mono (awp_sound B.mixed B.on hc c _ _ _ _ h hfit (init_st hM hr hn)) ?_)
  rintro ex a' w' ⟨σ', hq, ⟨⟨φ, st⟩, _⟩, _⟩
  have fin : (afresh fn.results σ' fun e' es' => e' = e ∧ es' = es) → bodyPost P fn (fun e' w' => ∃ v xs, e' = .returned v ∧ w'.ownsRow w.heap.size e (aty P e).sz v es.length xs ∧ RepLL phi0 (fun b => M b ∨ v.ownBlock = some b) w' (aty P e).sz es xs ∧ Below w.heap.size w w') .ret a' w' := by
    intro hq
    unfold afresh at hq
    split at hq
    · rename_i t hr1
      have hra : fn.results = #[.tmp t] := by apply Array.ext'; simpa using hr1
      have ht := st.tmr t
      split at hq
      · rename_i i heq
        rw [heq] at ht
        simp only [Rep] at ht
        obtain ⟨sz, hφ⟩ := ht
        obtain ⟨β, h1, h2, h3, rfl, rfl⟩ := hq
        obtain ⟨hsz, xs, h5, h6⟩ := st.hpr i β _ h1 hφ
        dsimp only at hsz h5 h6
        refine ⟨st.defers, _, results_tmp hra a'.tmps P w', _, xs, rfl, ?_, ?_, st.below⟩
        · rw [List.length_map, ← hsz]; exact h5
        · rw [← hsz]
          refine z0LL_rep (fun b hb => ?_) h6 h3
          rcases hb with hb | hb
          · exact .inl hb
          · exact .inr ⟨i, β, _, h1, h2, hφ, hb⟩
      · exact hq.elim
    · exact hq.elim
  cases ex with
  | normal => exact fin hq
  | ret => exact fin hq
  | exit i => exact hq.elim
  | goto l => exact hq.elim
  | panic ch => exact hq.elim
  | outgrown => exact hq.elim
end
end Go.Proofs.YtapghdjbffmifaaDoor
