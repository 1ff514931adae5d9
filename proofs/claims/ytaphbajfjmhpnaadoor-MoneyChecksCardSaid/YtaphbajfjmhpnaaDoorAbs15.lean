/-
  A whole body by values without memory, and a function's contract by it. Conditions: those that each theorem states.
-/
import Derived.Test.YtaphbajfjmhpnaaDoorAbs14
namespace Go.Proofs.YtaphbajfjmhpnaaDoor
open Go.RowKit
set_option maxRecDepth 100000

def fits (N : Nat) : Code → Bool
  | .region _ ops _ => ops.toList.all fun o => o.dst.all fun d => decide (d < N)
  | .seq a b | .cond _ a b => fits N a && fits N b
  | .block _ c | .loop c => fits N c
  | _ => true

section
variable {P : Program} {C : World → Prop} {w0 : Root} {M0 : Nat → Prop} {N : Nat}

theorem mo_eq {φ : Phi} {hp hp' : Nat → Option Row1} (h : ∀ x v, φ x = some v → hp' x = hp x) : Mo φ hp' M0 = Mo φ hp M0 := by
  funext b
  apply propext
  unfold Mo
  refine or_congr Iff.rfl ⟨?_, ?_⟩
  · rintro ⟨i, β, v, h1, h2, h3, h4⟩
    exact ⟨i, β, v, by rw [← h i v h3]; exact h1, h2, h3, h4⟩
  · rintro ⟨i, β, v, h1, h2, h3, h4⟩
    exact ⟨i, β, v, by rw [h i v h3]; exact h1, h2, h3, h4⟩
theorem St.hpx {F : Nat → Prop} {φ : Phi} {σ : AS} {a : Act} {w : World} (st : St P M0 N w0 F φ σ a w) {H : Nat → Option Row1} (h : ∀ x v, φ x = some v → H x = σ.hp x) : St P M0 N w0 F φ { σ with hp := H } a w := by
  have e := mo_eq (M0 := M0) h
  refine ⟨st.below, st.defers, st.size, fun t => ?_, fun i β v h1 h2 => ?_, fun i j β γ u v b h1 h2 h3 h4 => ?_, st.fresh, st.m0, st.ones, st.jk, fun i β x c h1 h2 => ?_, st.js⟩
  rotate_right
  · dsimp only at h1
    rw [h i x h2] at h1
    exact st.jo i β x c h1 h2
  · show Rep φ (Mo φ H M0) w _ _
    rw [e]; exact st.tmr t
  · show _ ∧ ∃ xs, _ ∧ RepLL φ (Mo φ H M0) w _ _ _
    rw [e]
    dsimp only at h1
    rw [h i v h2] at h1
    exact st.hpr i β v h1 h2
  · dsimp only at h1 h2
    rw [h i u h3] at h1
    rw [h j v h4] at h2
    exact st.inj i j β γ u v b h1 h2 h3 h4

theorem region_draw (hm : P.follows .mixedOrders = true) (hC : ∀ w w', C w → Below w.heap.size w w' → C w') (hc0 : C w0) {id b : Nat} {ops : Array Oper} {K : AS → Prop} {Q : Exit → Act → World → Prop} {σ : AS} {a : Act} {w : World} (hfit : ∀ o ∈ ops.toList, ∀ t, o.dst = some t → t < N)
    (hB : orderOk ops (drawn ops) = true) (h : aops P C ops (drawn ops) b 0 ops.toList K σ) (st : SeqSt P M0 N w0 b 0 σ a w)
    (hk : ∀ σ' a' w', K σ' → SeqSt P M0 N w0 b ops.size σ' a' w' → Fr (ops.toList.filterMap (·.dst)) σ σ' → Q .normal a' w') : (Code.region id ops true).wp P Q a w := by
  have hO := ord_of hB
  have hnd : drawn ops ≤ ops.size := tail_le _
  obtain ⟨⟨φ, st1⟩, st2⟩ := st
  obtain ⟨vs, σn, H, S, h1, h2, h3, h4, h5, hhp, hS, h6⟩ := lex_pre hO hnd h (fun x hx => st2 x (by omega)) (drawn ops) (Nat.le_refl _)
  have hrep : ∀ q, (Array.replicate ops.size false).getD q false = false := fun q => by by_cases hjs : q < ops.size <;> simp [hjs]
  refine wp_region_any hm (any_pre hC hc0 hfit hO hnd (fun j i h7 h8 h9 => drawn_reach h7 h8 h9) hk h1 h2 h3 h5 hhp (fun s c β γ h => (hS s c β γ h).2) h6 ops.size _ a _ ?_ (by simp) ?_ (fun q _ => ?_) (fun s _ _ _ _ hs => by rw [hrep] at hs; cases hs) ⟨φ, ?_⟩)
  · unfold cnt
    rw [List.countP_eq_length.2 (fun i hi => ?_)]
    · simp
    · have : i < ops.size := by simpa using hi
      simp [this]
  · intro j o e hj _ _
    have hf : (Array.replicate ops.size false).getD j false = false := by
      by_cases hjs : j < ops.size <;> simp [hjs]
    rw [hf] at hj; cases hj
  · by_cases hjs : q < ops.size <;> simp [hjs]
  · have e0 : lateHp S H (fun q => (Array.replicate ops.size false).getD q false) = H := by
      cases S with
      | none => rfl
      | some x => exact lateHp_f (s := x.1) (c := x.2.1) (β := x.2.2.1) (γ := x.2.2.2) (hrep x.1)
    rw [e0]
    have e : (⟨tmAt ops (drawn ops) vs σ.tm (fun q => (Array.replicate ops.size false).getD q false), H, σ.nx⟩ : AS) = { σ with hp := H } := by
      have : tmAt ops (drawn ops) vs σ.tm (fun q => (Array.replicate ops.size false).getD q false) = σ.tm := by
        funext t
        refine tmAt_miss fun j o _ _ _ => ?_
        by_cases hjs : j < ops.size <;> simp [hjs]
      rw [this]
    rw [e]
    have hb : Below w.heap.size w { w with drawn := w.drawn + 1 } := ⟨rfl, rfl, rfl, Nat.le_refl _, fun _ _ => rfl⟩
    refine ((st1.on hb).hpx fun x v hx => h4 x ?_).sub fun x hx => by omega
    rcases Nat.lt_or_ge x b with hlt | hge
    · exact hlt
    · rw [st1.fresh x (by omega)] at hx; cases hx

/-- The state of a body. -/
abbrev StC (P : Program) (M0 : Nat → Prop) (N : Nat) (w0 : Root) (σ : AS) (a : Act) (w : World) : Prop := SeqSt P M0 N w0 σ.nx 0 σ a w

theorem awp_sound (hm : P.follows .mixedOrders = true) (hC : ∀ w w', C w → Below w.heap.size w w' → C w') (hc0 : C w0) : ∀ (c : Code) (Q : Exit → AS → Prop) (σ : AS) (a : Act) (w : World), awp P C c Q σ → fits N c = true → StC P M0 N w0 σ a w →
    c.wp P (fun e a' w' => ∃ σ', Q e σ' ∧ StC P M0 N w0 σ' a' w' ∧ Fr (writes c) σ σ') a w := by
  intro c
  induction c with
  | skip => exact fun Q σ a w h _ st => wp_skip ⟨σ, h, st, Fr.refl _ _⟩
  | exit i => exact fun Q σ a w h _ st => wp_exit ⟨σ, h, st, Fr.refl _ _⟩
  | ret => exact fun Q σ a w h _ st => wp_ret ⟨σ, h, st, Fr.refl _ _⟩
  | region id ops d =>
    intro Q σ a w h hf st
    obtain ⟨h1, h2⟩ := h
    have hfit : ∀ o ∈ ops.toList, ∀ t, o.dst = some t → t < N := by
      intro o ho t ht
      have := List.all_eq_true.1 hf o ho
      rw [ht] at this
      simpa using this
    have fin : ∀ σ' a' w', Q .normal { σ' with nx := σ.nx + ops.size } → SeqSt P M0 N w0 σ.nx ops.size σ' a' w' → Fr (ops.toList.filterMap (·.dst)) σ σ' → ∃ σ', Q .normal σ' ∧ StC P M0 N w0 σ' a' w' ∧ Fr (writes (.region id ops d)) σ σ' := by
      intro σ' a' w' hq st' hfr
      refine ⟨_, hq, ?_, hfr.1, by show σ.nx ≤ σ.nx + ops.size; omega⟩
      obtain ⟨⟨φ, s1⟩, s2⟩ := st'
      exact ⟨⟨φ, ⟨s1.below, s1.defers, s1.size, s1.tmr, s1.hpr, s1.inj, fun i hi => s1.fresh i (by simpa using hi), s1.m0, s1.ones, s1.jk, s1.jo, s1.js⟩⟩, fun j hj => s2 j (by simpa using hj)⟩
    cases d with
    | true =>
      simp only [if_true] at h2
      exact region_draw hm hC hc0 hfit (h1 rfl) h2 st fin
    | false =>
      simp only [Bool.false_eq_true, if_false] at h2
      refine wp_region_list (aops_seq hC hc0 ops.toList 0 σ a w hfit h2 st fun σ' a' w' hq st' hfr => fin σ' a' w' hq (by simpa using st') hfr)
  | seq x y ihx ihy =>
    intro Q σ a w h hf st
    rw [fits, Bool.and_eq_true] at hf
    refine wp_seq (wp_mono (ihx _ σ a w h hf.1 st) ?_)
    rintro e a' w' ⟨σ', hq, st', hfr⟩
    have hfr' : Fr (writes (.seq x y)) σ σ' := hfr.mono fun t ht => List.mem_append_left _ ht
    cases e with
    | normal =>
      refine wp_mono (ihy _ σ' a' w' hq hf.2 st') ?_
      rintro e2 a2 w2 ⟨σ2, hq2, st2, hfr2⟩
      exact ⟨σ2, hq2, st2, hfr'.trans (hfr2.mono fun t ht => List.mem_append_right _ ht)⟩
    | exit i => exact ⟨σ', hq, st', hfr'⟩
    | goto l => exact ⟨σ', hq, st', hfr'⟩
    | ret => exact ⟨σ', hq, st', hfr'⟩
    | panic ch => exact ⟨σ', hq, st', hfr'⟩
    | outgrown => exact ⟨σ', hq, st', hfr'⟩
  | cond cnd x y ihx ihy =>
    intro Q σ a w h hf st
    rw [fits, Bool.and_eq_true] at hf
    obtain ⟨⟨φ, s1⟩, s2⟩ := st
    rcases h with ⟨t, h1, h2, h3⟩ | ⟨es, h1, h2, h3⟩
    case inr =>
      have e0 := s1.evr cnd
      rw [h1] at e0
      simp only [Rep] at e0
      obtain ⟨t, e1, e2⟩ := e0
      refine wp_cond_split e1 (fun ht => ?_) (fun _ => ?_)
      · refine wp_mono (ihx _ σ a w (h2 (e2 ht)) hf.1 ⟨⟨φ, s1⟩, s2⟩) ?_
        rintro e a' w' ⟨σ', hq, st', hfr⟩
        exact ⟨σ', hq, st', hfr.mono fun t ht => List.mem_append_left _ ht⟩
      · refine wp_mono (ihy _ σ a w h3 hf.2 ⟨⟨φ, s1⟩, s2⟩) ?_
        rintro e a' w' ⟨σ', hq, st', hfr⟩
        exact ⟨σ', hq, st', hfr.mono fun t ht => List.mem_append_right _ ht⟩
    have e1 := rep_ex (s1.evr cnd) h1
    refine wp_cond_split e1 (fun ht => ?_) (fun ht => ?_)
    · refine wp_mono (ihx _ σ a w (h2 ht) hf.1 ⟨⟨φ, s1⟩, s2⟩) ?_
      rintro e a' w' ⟨σ', hq, st', hfr⟩
      exact ⟨σ', hq, st', hfr.mono fun t ht => List.mem_append_left _ ht⟩
    · refine wp_mono (ihy _ σ a w (h3 ht) hf.2 ⟨⟨φ, s1⟩, s2⟩) ?_
      rintro e a' w' ⟨σ', hq, st', hfr⟩
      exact ⟨σ', hq, st', hfr.mono fun t ht => List.mem_append_right _ ht⟩
  | block i x ih =>
    intro Q σ a w h hf st
    refine wp_block (wp_mono (ih _ σ a w h hf st) ?_)
    rintro e a' w' ⟨σ', hq, st', hfr⟩
    cases e with
    | exit j =>
      simp only [Exit.inBlock]
      simp only [ablock] at hq
      split
      · rename_i hj; rw [if_pos hj] at hq; exact ⟨σ', hq, st', hfr⟩
      · rename_i hj; rw [if_neg hj] at hq; exact ⟨σ', hq, st', hfr⟩
    | normal => exact ⟨σ', hq, st', hfr⟩
    | goto l => exact ⟨σ', hq, st', hfr⟩
    | ret => exact ⟨σ', hq, st', hfr⟩
    | panic ch => exact ⟨σ', hq, st', hfr⟩
    | outgrown => exact ⟨σ', hq, st', hfr⟩
  | loop x ih =>
    intro Q σ a w h hf st
    obtain ⟨I, n, h1, h2⟩ := h
    refine wp_loop_ghost (fun n a' w' => ∃ σ', I n σ' ∧ StC P M0 N w0 σ' a' w' ∧ Fr (writes (.loop x)) σ σ') n ⟨σ, h1, st, Fr.refl _ _⟩ ?_
    rintro n' a' w' ⟨σ', g1, g2, g3⟩
    refine wp_mono (ih _ σ' a' w' (h2 n' σ' g1 g3.1 g3.2) hf g2) ?_
    rintro e a2 w2 ⟨σ2, hq, st2, hfr⟩
    cases e with
    | normal =>
      obtain ⟨m, hm1, hm2⟩ := hq
      exact ⟨m, hm1, σ2, hm2, st2, g3.trans hfr⟩
    | exit j => exact ⟨σ2, hq, st2, g3.trans hfr⟩
    | goto l => exact ⟨σ2, hq, st2, g3.trans hfr⟩
    | ret => exact ⟨σ2, hq, st2, g3.trans hfr⟩
    | panic ch => exact ⟨σ2, hq, st2, g3.trans hfr⟩
    | outgrown => exact ⟨σ2, hq, st2, g3.trans hfr⟩
  | _ => exact fun Q σ a w h _ _ => h.elim
end
end Go.Proofs.YtaphbajfjmhpnaaDoor

namespace Go.Proofs.YtaphbajfjmhpnaaDoor
open Go.RowKit
set_option maxRecDepth 100000

/-- What a result variable gives. -/
def ares1 (P : Program) (σ : AS) (r : ResultVar) (k : AV → Prop) : Prop :=
  match r with
  | .tmp t => k (σ.tm t)
  | .cell x ty => match σ.tm x with
    | .pt b j off => ∃ β e, σ.hp b = some β ∧ β.es[j]? = some e ∧ ldCell P ty e off (fun u _ => k u)
    | _ => False
/-- All results, as they are handed on. -/
def aret (P : Program) (rs : Array ResultVar) (σ : AS) (k : AV → Prop) : Prop :=
  match rs.toList with
  | [r] => ares1 P σ r fun u => ∃ u' ids, cl σ.hp u = some (u', ids) ∧ k u'
  | [r, s] => ares1 P σ r fun u => ares1 P σ s fun v => ∃ us ids, cls σ.hp [u, v] = some (us, ids) ∧ k (.tup us)
  | [r, s, q] => ares1 P σ r fun u => ares1 P σ s fun v => ares1 P σ q fun x => ∃ us ids, cls σ.hp [u, v, x] = some (us, ids) ∧ k (.tup us)
  | _ => False
/-- A result that is a new row. -/
def afresh (rs : Array ResultVar) (σ : AS) (k : Nat → List (List AV) → Prop) : Prop :=
  match rs.toList with
  | [.tmp t] => match σ.tm t with
    | .own b => ∃ β, σ.hp b = some β ∧ β.mu = true ∧ (β.es.all (·.all p0)) = true ∧ k β.ty (β.es.map (·.map z0))
    | _ => False
  | _ => False
def aend (k : AS → Prop) : Exit → AS → Prop
  | .normal, σ => k σ
  | .ret, σ => k σ
  | _, _ => False

section
variable {P : Program} {C : World → Prop} {w0 : Root} {M0 : Nat → Prop} {N : Nat} {φ : Phi} {σ : AS} {a : Act} {w : World} {F : Nat → Prop}
theorem ldCell_res {t : Nat} {cs : List AV} {off : Nat} {k : AV → Prop} (hk : ldCell P t cs off (fun u _ => k u)) {M : Nat → Prop} {vs : List Value} (hv : RepL φ M w cs vs) (h1 : ∀ u ∈ vs, u.oneCell' = true) {g o : Nat} (hat : At w g o vs) :
    ∃ u v, k u ∧ Rep φ M w u v ∧ (loadVar t ⟨g, o + off, none⟩).run P w = .ok v w := by
  unfold ldCell at hk
  split at hk
  · rename_i hg
    obtain ⟨⟨h2, h3⟩, hk⟩ := hk
    refine ⟨_, _, hk, ?_, run_loadVar_agg hat hg h2 (by rw [RepL.len hv]; exact h3)⟩
    simp only [Rep]
    exact ⟨_, rfl, fun u hu => h1 u (List.mem_of_mem_drop (List.mem_of_mem_take hu)), (hv.drop off).take _⟩
  · obtain ⟨hn, u, h2, hk⟩ := hk
    obtain ⟨v, h3, h4⟩ := hv.get h2
    exact ⟨u, v, hk, h4, run_loadVar_one (hat _ _ h3) hn⟩
def resS (tmps : Array Value) : ResultVar → Sem Value
  | .tmp t => pure (tmps.getD t undef)
  | .cell x ty => do loadVar ty (← asAddr (tmps.getD x undef))
theorem results_eq (fn : Func) (tmps : Array Value) : results fn tmps = (do let vs ← fn.results.mapM (resS tmps); pure (if h : vs.size = 1 then vs[0] else .tuple vs)) := by
  have e : (fun r : ResultVar => match r with | .tmp t => (pure (tmps.getD t undef) : Sem Value) | .cell a t => do loadVar t (← asAddr (tmps.getD a undef))) = resS tmps := by
    funext r; cases r <;> rfl
  rw [← e]; rfl
theorem ares1_run (st : St P M0 N w0 F φ σ a w) {r : ResultVar} {k : AV → Prop} (h : ares1 P σ r k) : ∃ u v, k u ∧ Rep φ (Mo φ σ.hp M0) w u v ∧
    (resS a.tmps r).run P w = .ok v w := by
  unfold ares1 at h
  cases r with
  | tmp t => exact ⟨_, _, h, st.tmr t, rfl⟩
  | cell x ty =>
    dsimp only at h ⊢
    have hx := st.tmr x
    split at h
    · rename_i i j off heq
      rw [heq] at hx
      simp only [Rep] at hx
      obtain ⟨hd, sz, g1, g2⟩ := hx
      obtain ⟨β, e, h1, h2, h3⟩ := h
      obtain ⟨_, xs, h5, h6⟩ := st.hpr i β _ h1 g1
      dsimp only at h5 h6
      obtain ⟨p, q, r, q1, q2, q3, q4, q5, _, _⟩ := h6.get h2
      by_cases hn : xs = []
      · have hq : q = [] := by rw [hn] at q1; simp at q1; exact q1.2.1
        have he0 : e = [] := List.eq_nil_of_length_eq_zero (by rw [← RepL.len q5, hq]; rfl)
        subst he0
        unfold ldCell at h3
        split at h3
        · simp at h3; omega
        · simp at h3
      · obtain ⟨g, c, _, _, _, _, r5, _, _, r8, _⟩ := own_at h5 hn
        rw [r5] at g2
        have hat : At w g (j * sz) q := by
          rw [q1] at r8
          have := r8.part
          rwa [q2, Nat.zero_add] at this
        obtain ⟨u, v, k1, k2, k3⟩ := ldCell_res h3 q5 q4 hat
        exact ⟨u, v, k1, k2, by simp only [resS]; rw [g2]; simp [asAddr, k3]⟩
    · exact h.elim

theorem m0_of {ids : List Nat} {u : AV} {v : Value} (h : Rep phi0 (Mf φ σ.hp M0 ids) w u v) : Rep phi0 M0 w u v :=
  Rep.keep (φ := phi0) (φ' := phi0) (M := Mf φ σ.hp M0 ids) (M' := M0) (fun _ hlt hn => ⟨fun h => hn (.inl h), hlt, rfl⟩) (Ext.refl _) u v h
theorem m0L_of {ids : List Nat} {us : List AV} {vs : List Value} (h : RepL phi0 (Mf φ σ.hp M0 ids) w us vs) : RepL phi0 M0 w us vs :=
  RepL.keep (φ := phi0) (φ' := phi0) (M := Mf φ σ.hp M0 ids) (M' := M0) (fun _ hlt hn => ⟨fun h => hn (.inl h), hlt, rfl⟩) (Ext.refl _) us vs h

theorem aret_run (st : St P M0 N w0 F φ σ a w) {fn : Func} {k : AV → Prop} (h : aret P fn.results σ k) : ∃ r v, k r ∧ Rep phi0 M0 w r v ∧ (results fn a.tmps).run P w = .ok v w := by
  have hself : ∀ b β v, σ.hp b = some β → φ b = some v → ∃ γ, σ.hp b = some γ ∧ wkR β γ := fun _ β _ h _ => ⟨β, h, wkR_refl β⟩
  unfold aret at h
  split at h
  · rename_i r hr
    have hra : fn.results = #[r] := by apply Array.ext'; simpa using hr
    obtain ⟨u, v, ⟨u', ids, h1, hk⟩, h2, h3⟩ := ares1_run st h
    refine ⟨u', v, hk, m0_of (cl_rep st hself h2 h1 fun _ h => h), ?_⟩
    rw [results_eq, hra]
    simp [h3]
  · rename_i r s hr
    have hra : fn.results = #[r, s] := by apply Array.ext'; simpa using hr
    obtain ⟨u, v, h, h2, h3⟩ := ares1_run st h
    obtain ⟨u2, v2, ⟨us, ids, h1, hk⟩, h4, h5⟩ := ares1_run st h
    refine ⟨.tup us, .tuple #[v, v2], hk, ?_, ?_⟩
    · simp only [Rep]
      exact ⟨[v, v2], rfl, m0L_of (cls_rep st hself (RepL.cons h2 (RepL.cons h4 RepL.nil)) h1 fun _ h => h)⟩
    · rw [results_eq, hra]
      simp [h3, h5]
  · rename_i r s q hr
    have hra : fn.results = #[r, s, q] := by apply Array.ext'; simpa using hr
    obtain ⟨u, v, h, h2, h3⟩ := ares1_run st h
    obtain ⟨u2, v2, h, h4, h5⟩ := ares1_run st h
    obtain ⟨u3, v3, ⟨us, ids, h1, hk⟩, h6, h7⟩ := ares1_run st h
    refine ⟨.tup us, .tuple #[v, v2, v3], hk, ?_, ?_⟩
    · simp only [Rep]
      exact ⟨[v, v2, v3], rfl, m0L_of (cls_rep st hself (RepL.cons h2 (RepL.cons h4 (RepL.cons h6 RepL.nil))) h1 fun _ h => h)⟩
    · rw [results_eq, hra]
      simp [h3, h5, h7]
  · exact h.elim

/-- The frame at the beginning. -/
def init (us : List AV) : AS := ⟨fun t => us.getD t .junk, fun _ => none, 0⟩
theorem init_st {us : List AV} {args : List Value} {n : Nat} (hM : ∀ b, M0 b → b < w.heap.size) (h : RepL phi0 M0 w us args) (hn : us.length ≤ n) :
    StC P M0 n ⟨w, fun _ => False, w⟩ (init us) { tmps := args.toArray ++ Array.replicate (n - args.toArray.size) undef, defers := [] } w := by
  have hl := RepL.len h
  have hMo : Mo phi0 (init us).hp M0 = M0 := by
    funext b
    apply propext
    exact ⟨fun h => h.elim (fun h => h) fun ⟨i, β, v, h1, _⟩ => (by cases h1), .inl⟩
  refine ⟨⟨phi0, Below.refl _ _, rfl, ?_, fun t => ?_, fun i β v h1 => (by cases h1), fun i j β γ u v b h1 => (by cases h1), fun _ _ => rfl, fun b hb => .inl (hM b hb), fun i v h1 => (by cases h1), fun _ h => h.elim, fun i β v b h1 => (by cases h1), Nat.le_refl _⟩, fun _ _ => rfl⟩
  · simp; omega
  · rw [hMo]
    show Rep phi0 M0 w (us.getD t .junk) _
    rcases Nat.lt_or_ge t us.length with hlt | hge
    · obtain ⟨v, h1, h2⟩ := h.get (List.getElem?_eq_getElem hlt)
      rw [List.getD_eq_getElem?_getD, List.getElem?_eq_getElem hlt]
      have : (args.toArray ++ Array.replicate (n - args.toArray.size) undef).getD t undef = v := by
        rw [Array.getD_eq_getD_getElem?, Array.getElem?_append_left (by simp; omega)]
        simp [h1]
      rw [this]
      exact h2
    · rw [List.getD_eq_getElem?_getD, List.getElem?_eq_none hge]
      simp only [Option.getD_none, Rep]

structure Base (P : Program) (C : World → Prop) : Prop where
  mixed : P.follows .mixedOrders = true
  on : ∀ w w', C w → Below w.heap.size w w' → C w'

/-- A contract: the body, walked. -/
theorem con_val (B : Base P C) {f : FuncId} {fn : Func} {c : Code} (hf : P.funcs[f]? = some fn) (hb : fn.body = some c) (hnm : (fn.name == "runtime.NumGoroutine") = false) {us : List AV} (hfit : fits fn.ntmps c = true) (hn : us.length ≤ fn.ntmps) {r : AV}
    (h : awp P C c (aend fun σ => aret P fn.results σ fun u => u = r) (init us)) : Con P C f us (.val r) := by
  refine ⟨⟨fn, hf, by rw [hb]; rfl, hnm⟩, fun M w args hM hc hr => ?_⟩
  refine calls_of_wp hf hb (wp_mono (awp_sound B.mixed B.on hc c _ _ _ _ h hfit (init_st hM hr hn)) ?_)
  rintro e a' w' ⟨σ', hq, ⟨⟨φ, st⟩, _⟩, _⟩
  have fin : (aret P fn.results σ' fun u => u = r) → bodyPost P fn (fun e w' => ∃ v, e = .returned v ∧ Rep phi0 M w' r v ∧ Below w.heap.size w w') .ret a' w' := by
    intro hq
    obtain ⟨r', v, rfl, h2, h3⟩ := aret_run st hq
    exact ⟨st.defers, v, h3, v, rfl, h2, st.below⟩
  cases e with
  | normal => exact fin hq
  | ret => exact fin hq
  | exit i => exact hq.elim
  | goto l => exact hq.elim
  | panic ch => exact hq.elim
  | outgrown => exact hq.elim
theorem con_fresh (B : Base P C) {f : FuncId} {fn : Func} {c : Code} (hf : P.funcs[f]? = some fn) (hb : fn.body = some c) (hnm : (fn.name == "runtime.NumGoroutine") = false) {us : List AV} (hfit : fits fn.ntmps c = true) (hn : us.length ≤ fn.ntmps) {e : Nat} {es : List (List AV)}
    (h : awp P C c (aend fun σ => afresh fn.results σ fun e' es' => e' = e ∧ es' = es) (init us)) : Con P C f us (.fresh e es) := by
  refine ⟨⟨fn, hf, by rw [hb]; rfl, hnm⟩, fun M w args hM hc hr => ?_⟩
  refine calls_of_wp hf hb (wp_mono (awp_sound B.mixed B.on hc c _ _ _ _ h hfit (init_st hM hr hn)) ?_)
  rintro ex a' w' ⟨σ', hq, ⟨⟨φ, st⟩, _⟩, _⟩
  have fin : (afresh fn.results σ' fun e' es' => e' = e ∧ es' = es) → bodyPost P fn (fun e' w' => ∃ v xs, e' = .returned v ∧ w'.ownsRow w.heap.size e (aty P e).sz v es.length xs ∧ RepLL phi0 (fun b => M b ∨ v.ownBlock = some b) w' (aty P e).sz es xs ∧ Below w.heap.size w w') .ret a' w' := by
    intro hq
    unfold afresh at hq
    split at hq
    · rename_i t hr1
      have hra : fn.results = #[.tmp t] := by apply Array.ext'; simpa using hr1
      have ht := st.tmr t
      split at hq
      · rename_i i heq
        rw [heq] at ht
        simp only [Rep] at ht
        obtain ⟨sz, hφ⟩ := ht
        obtain ⟨β, h1, h2, h3, rfl, rfl⟩ := hq
        obtain ⟨hsz, xs, h5, h6⟩ := st.hpr i β _ h1 hφ
        dsimp only at hsz h5 h6
        refine ⟨st.defers, _, results_tmp hra a'.tmps P w', _, xs, rfl, ?_, ?_, st.below⟩
        · rw [List.length_map, ← hsz]; exact h5
        · rw [← hsz]
          refine z0LL_rep (fun b hb => ?_) h6 h3
          rcases hb with hb | hb
          · exact .inl hb
          · exact .inr ⟨i, β, _, h1, h2, hφ, hb⟩
      · exact hq.elim
    · exact hq.elim
  cases ex with
  | normal => exact fin hq
  | ret => exact fin hq
  | exit i => exact hq.elim
  | goto l => exact hq.elim
  | panic ch => exact hq.elim
  | outgrown => exact hq.elim
/-- The frame of a call that is handed a row to keep. -/
def initM (e : Nat) (es : List (List AV)) (us : List AV) : AS := ⟨fun t => (AV.own 0 :: us).getD t .junk, fun i => if i = 0 then some ⟨e, es, true⟩ else none, 1⟩
theorem con_moved (B : Base P C) {f : FuncId} {fn : Func} {c : Code} (hf : P.funcs[f]? = some fn) (hb : fn.body = some c) (hnm : (fn.name == "runtime.NumGoroutine") = false) {us : List AV} (hfit : fits fn.ntmps c = true) (hn : us.length + 1 ≤ fn.ntmps) {e : Nat} {es es' : List (List AV)}
    (hnl : (es'.all (·.all noSl0)) = true) (h : awp P C c (aend fun σ => afresh fn.results σ fun e1 es1 => e1 = e ∧ es1 = es') (initM e es us)) : ConM P C f e es us es' := by
  refine ⟨⟨fn, hf, by rw [hb]; rfl, hnm⟩, fun M W0 w hd xs args hc0 hb0 hM hown hrow hhd hr => ?_⟩
  generalize hφ : (fun i => if i = 0 then some (hd, (aty P e).sz) else none : Phi) = φ
  have φ0 : φ 0 = some (hd, (aty P e).sz) := by rw [← hφ]; rfl
  have φs : ∀ i, i ≠ 0 → φ i = none := fun i hi => by rw [← hφ]; exact if_neg hi
  have hp0 : (initM e es us).hp 0 = some ⟨e, es, true⟩ := rfl
  have hps : ∀ i, i ≠ 0 → (initM e es us).hp i = none := fun i hi => if_neg hi
  have hv1 : hd.oneCell' = true := by obtain ⟨A', c', hv, _⟩ := own_form hown; rw [hv]; rfl
  have hMo : Mo φ (initM e es us).hp (fun b => M b ∧ hd.ownBlock ≠ some b) = M := by
    funext b
    apply propext
    constructor
    · rintro (⟨h, _⟩ | ⟨i, β, v, h1, _, h3, h4⟩)
      · exact h
      · by_cases hi : i = 0
        · subst hi
          rw [φ0] at h3
          cases h3
          exact hhd b h4
        · rw [φs i hi] at h3; cases h3
    · intro h
      by_cases hq : hd.ownBlock = some b
      · exact .inr ⟨0, _, _, hp0, rfl, φ0, hq⟩
      · exact .inl ⟨h, hq⟩
  have hl := RepL.len hr
  have hr2 : RepL φ M w (AV.own 0 :: us) (hd :: args) := RepL.cons (by simp only [Rep]; exact ⟨_, φ0⟩) (RepL.keep (Keep.refl M w) (ext0 φ) _ _ hr)
  have st0 : StC P (fun b => M b ∧ hd.ownBlock ≠ some b) fn.ntmps ⟨W0, fun k => k < w.heap.size ∧ hd.ownBlock ≠ some k, w⟩ (initM e es us) { tmps := (hd :: args).toArray ++ Array.replicate (fn.ntmps - (hd :: args).toArray.size) undef, defers := [] } w := by
    refine ⟨⟨φ, hb0, rfl, ?_, fun t => ?_, fun i β v h1 h2 => ?_, fun i j β γ u v b h1 h2 h3 h4 _ _ => ?_, fun i hi => φs i (fun e0 => by subst e0; exact absurd hi (by show ¬ 1 + 0 ≤ 0; omega)), fun b hb => .inr ⟨hM b hb.1, hb.2⟩, fun i v h1 => ?_, fun b hb => ⟨hb.1, rfl⟩, fun i β v b h1 h2 h3 h4 => ?_, Nat.le_refl _⟩, fun i hi => hps i (fun e0 => by subst e0; exact absurd hi (by show ¬ 1 + 0 ≤ 0; omega))⟩
    · simp; omega
    · rw [hMo]
      show Rep φ M w ((AV.own 0 :: us).getD t .junk) _
      rcases Nat.lt_or_ge t (AV.own 0 :: us).length with hlt | hge
      · obtain ⟨v, h1, h2⟩ := hr2.get (List.getElem?_eq_getElem hlt)
        rw [List.getD_eq_getElem?_getD, List.getElem?_eq_getElem hlt]
        have : ((hd :: args).toArray ++ Array.replicate (fn.ntmps - (hd :: args).toArray.size) undef).getD t undef = v := by
          rw [Array.getD_eq_getD_getElem?, Array.getElem?_append_left (by simp at hlt ⊢; omega)]
          simp [h1]
        rw [this]
        exact h2
      · rw [List.getD_eq_getElem?_getD, List.getElem?_eq_none hge]
        simp only [Option.getD_none, Rep]
    · by_cases hi : i = 0
      · subst hi
        rw [hp0] at h1
        rw [φ0] at h2
        cases h1
        cases h2
        rw [hMo]
        exact ⟨rfl, xs, hown, RepLL.keep (Keep.refl M w) (ext0 φ) _ _ _ hrow⟩
      · rw [hps i hi] at h1; cases h1
    · by_cases hi : i = 0
      · by_cases hj : j = 0
        · rw [hi, hj]
        · rw [hps j hj] at h2; cases h2
      · rw [hps i hi] at h1; cases h1
    · by_cases hi : i = 0
      · subst hi
        rw [φ0] at h1
        cases h1
        exact hv1
      · rw [φs i hi] at h1; cases h1
    · by_cases hi : i = 0
      · subst hi
        rw [φ0] at h2
        cases h2
        exact h4.2 h3
      · rw [φs i hi] at h2; cases h2
  refine calls_of_wp hf hb (wp_mono (awp_sound B.mixed B.on hc0 c _ _ _ _ h hfit st0) ?_)
  rintro ex a' w' ⟨σ', hq, ⟨⟨φ', st⟩, _⟩, _⟩
  have fin : (afresh fn.results σ' fun e1 es1 => e1 = e ∧ es1 = es') → bodyPost P fn (fun e' w' => ∃ v xs', e' = .returned v ∧ w'.ownsRow W0.heap.size e (aty P e).sz v es'.length xs' ∧ RepLL phi0 M w' (aty P e).sz es' xs' ∧ w.grownBy w' hd.ownBlock ∧ ∀ k, v.ownBlock = some k → hd.ownBlock = some k ∨ w.heap.size ≤ k) .ret a' w' := by
    intro hq
    unfold afresh at hq
    split at hq
    · rename_i t hr1
      have hra : fn.results = #[.tmp t] := by apply Array.ext'; simpa using hr1
      have ht := st.tmr t
      split at hq
      · rename_i i heq
        rw [heq] at ht
        simp only [Rep] at ht
        obtain ⟨sz, hφ'⟩ := ht
        obtain ⟨β, h1, h2, h3, rfl, rfl⟩ := hq
        obtain ⟨hsz, xs', h5, h6⟩ := st.hpr i β _ h1 hφ'
        dsimp only at hsz h5 h6
        refine ⟨st.defers, _, results_tmp hra a'.tmps P w', _, xs', rfl, ?_, ?_, ⟨st.below.os.trans hb0.os.symm, st.below.tape.trans hb0.tape.symm, st.below.output.trans hb0.output.symm, st.js, fun k hk hne => (st.jk k ⟨hk, fun e => hne e.symm⟩).2⟩, fun k hk => ?_⟩
        · rw [List.length_map, ← hsz]; exact h5
        · rw [← hsz]
          exact noSl0LL_rep hnl (z0LL_rep (M' := fun _ => False) (fun b hb => hb.elim) h6 h3)
        · have := st.jo i β _ k h1 hφ' hk
          by_cases hq : hd.ownBlock = some k
          · exact .inl hq
          · exact .inr (Nat.le_of_not_lt fun hlt => this ⟨hlt, hq⟩)
      · exact hq.elim
    · exact hq.elim
  cases ex with
  | normal => exact fin hq
  | ret => exact fin hq
  | exit i => exact hq.elim
  | goto l => exact hq.elim
  | panic ch => exact hq.elim
  | outgrown => exact hq.elim
end
end Go.Proofs.YtaphbajfjmhpnaaDoor
