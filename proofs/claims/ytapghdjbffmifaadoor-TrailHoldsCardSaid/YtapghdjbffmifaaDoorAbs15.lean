/-
  A whole body by values without memory, and a function's contract by it. Conditions: those that each theorem states.
-/
import Derived.Test.YtapghdjbffmifaaDoorAbs14
namespace Go.Proofs.YtapghdjbffmifaaDoor
open Go.RowKit
set_option maxRecDepth 100000

def fits (N : Nat) : Code → Bool
  | .region _ ops _ => ops.toList.all fun o => o.dst.all fun d => decide (d < N)
  | .seq a b | .cond _ a b => fits N a && fits N b
  | .block _ c | .loop c => fits N c
  | _ => true

section
variable {P : Program} {C : World → Prop} {w0 : World} {M0 : Nat → Prop} {N : Nat}

theorem mo_eq {φ : Phi} {hp hp' : Nat → Option Row1} (h : ∀ x v, φ x = some v → hp' x = hp x) : Mo φ hp' M0 = Mo φ hp M0 := by
  funext b
  apply propext
  unfold Mo
  refine or_congr Iff.rfl ⟨?_, ?_⟩
  · rintro ⟨i, β, v, h1, h2, h3, h4⟩
    exact ⟨i, β, v, by rw [← h i v h3]; exact h1, h2, h3, h4⟩
  · rintro ⟨i, β, v, h1, h2, h3, h4⟩
    exact ⟨i, β, v, by rw [h i v h3]; exact h1, h2, h3, h4⟩
theorem St.hpx {F : Nat → Prop} {φ : Phi} {σ : AS} {a : Act} {w : World} (st : St P M0 N w0 F φ σ a w) {H : Nat → Option Row1} (h : ∀ x v, φ x = some v → H x = σ.hp x) : St P M0 N w0 F φ { σ with hp := H } a w := by
  have e := mo_eq (M0 := M0) h
  refine ⟨st.below, st.defers, st.size, fun t => ?_, fun i β v h1 h2 => ?_, fun i j β γ u v b h1 h2 h3 h4 => ?_, st.fresh, st.m0, st.ones⟩
  · show Rep φ (Mo φ H M0) w _ _
    rw [e]; exact st.tmr t
  · show _ ∧ ∃ xs, _ ∧ RepLL φ (Mo φ H M0) w _ _ _
    rw [e]
    dsimp only at h1
    rw [h i v h2] at h1
    exact st.hpr i β v h1 h2
  · dsimp only at h1 h2
    rw [h i u h3] at h1
    rw [h j v h4] at h2
    exact st.inj i j β γ u v b h1 h2 h3 h4

theorem region_draw (hm : P.follows .mixedOrders = true) (hC : ∀ w w', C w → Below w.heap.size w w' → C w') (hc0 : C w0) {id b : Nat} {ops : Array Oper} {K : AS → Prop} {Q : Exit → Act → World → Prop} {σ : AS} {a : Act} {w : World} (hfit : ∀ o ∈ ops.toList, ∀ t, o.dst = some t → t < N)
    (hB : orderOk ops (drawn ops) = true) (h : aops P C ops (drawn ops) b 0 ops.toList K σ) (st : SeqSt P M0 N w0 b 0 σ a w)
    (hk : ∀ σ' a' w', K σ' → SeqSt P M0 N w0 b ops.size σ' a' w' → Fr (ops.toList.filterMap (·.dst)) σ σ' → Q .normal a' w') : (Code.region id ops true).wp P Q a w := by
  have hO := ord_of hB
  have hnd : drawn ops ≤ ops.size := tail_le _
  obtain ⟨⟨φ, st1⟩, st2⟩ := st
  obtain ⟨vs, σn, h1, h2, h3, h4, h5, h6⟩ := lex_pre hO hnd h (fun x hx => st2 x (by omega)) (drawn ops) (Nat.le_refl _)
  refine wp_region_any hm (any_pre hC hc0 hfit hO hnd (fun j i h7 h8 h9 => drawn_reach h7 h8 h9) hk h1 h2 h3 h5 h6 ops.size _ a _ ?_ (by simp) ?_ (fun q _ => ?_) ⟨φ, ?_⟩)
  · unfold cnt
    rw [List.countP_eq_length.2 (fun i hi => ?_)]
    · simp
    · have : i < ops.size := by simpa using hi
      simp [this]
  · intro j o e hj _ _
    have hf : (Array.replicate ops.size false).getD j false = false := by
      by_cases hjs : j < ops.size <;> simp [hjs]
    rw [hf] at hj; cases hj
  · by_cases hjs : q < ops.size <;> simp [hjs]
  · have e : (⟨tmAt ops (drawn ops) vs σ.tm (fun q => (Array.replicate ops.size false).getD q false), σn.hp, σ.nx⟩ : AS) = { σ with hp := σn.hp } := by
      have : tmAt ops (drawn ops) vs σ.tm (fun q => (Array.replicate ops.size false).getD q false) = σ.tm := by
        funext t
        refine tmAt_miss fun j o _ _ _ => ?_
        by_cases hjs : j < ops.size <;> simp [hjs]
      rw [this]
    rw [e]
    have hb : Below w.heap.size w { w with drawn := w.drawn + 1 } := ⟨rfl, rfl, rfl, Nat.le_refl _, fun _ _ => rfl⟩
    refine ((st1.on hb).hpx fun x v hx => h4 x ?_).sub fun x hx => by omega
    rcases Nat.lt_or_ge x b with hlt | hge
    · exact hlt
    · rw [st1.fresh x (by omega)] at hx; cases hx

/-- The state of a body. -/
abbrev StC (P : Program) (M0 : Nat → Prop) (N : Nat) (w0 : World) (σ : AS) (a : Act) (w : World) : Prop := SeqSt P M0 N w0 σ.nx 0 σ a w

theorem awp_sound (hm : P.follows .mixedOrders = true) (hC : ∀ w w', C w → Below w.heap.size w w' → C w') (hc0 : C w0) : ∀ (c : Code) (Q : Exit → AS → Prop) (σ : AS) (a : Act) (w : World), awp P C c Q σ → fits N c = true → StC P M0 N w0 σ a w →
    c.wp P (fun e a' w' => ∃ σ', Q e σ' ∧ StC P M0 N w0 σ' a' w' ∧ Fr (writes c) σ σ') a w := by
  intro c
  induction c with
  | skip => exact fun Q σ a w h _ st => wp_skip ⟨σ, h, st, Fr.refl _ _⟩
  | exit i => exact fun Q σ a w h _ st => wp_exit ⟨σ, h, st, Fr.refl _ _⟩
  | ret => exact fun Q σ a w h _ st => wp_ret ⟨σ, h, st, Fr.refl _ _⟩
  | region id ops d =>
    intro Q σ a w h hf st
    obtain ⟨h1, h2⟩ := h
    have hfit : ∀ o ∈ ops.toList, ∀ t, o.dst = some t → t < N := by
      intro o ho t ht
      have := List.all_eq_true.1 hf o ho
      rw [ht] at this
      simpa using this
    have fin : ∀ σ' a' w', Q .normal { σ' with nx := σ.nx + ops.size } → SeqSt P M0 N w0 σ.nx ops.size σ' a' w' → Fr (ops.toList.filterMap (·.dst)) σ σ' → ∃ σ', Q .normal σ' ∧ StC P M0 N w0 σ' a' w' ∧ Fr (writes (.region id ops d)) σ σ' := by
      intro σ' a' w' hq st' hfr
      refine ⟨_, hq, ?_, hfr.1, by show σ.nx ≤ σ.nx + ops.size; omega⟩
      obtain ⟨⟨φ, s1⟩, s2⟩ := st'
      exact ⟨⟨φ, ⟨s1.below, s1.defers, s1.size, s1.tmr, s1.hpr, s1.inj, fun i hi => s1.fresh i (by simpa using hi), s1.m0, s1.ones⟩⟩, fun j hj => s2 j (by simpa using hj)⟩
    cases d with
    | true =>
      simp only [if_true] at h2
      exact region_draw hm hC hc0 hfit (h1 rfl) h2 st fin
    | false =>
      simp only [Bool.false_eq_true, if_false] at h2
      refine wp_region_list (aops_seq hC hc0 ops.toList 0 σ a w hfit h2 st fun σ' a' w' hq st' hfr => fin σ' a' w' hq (by simpa using st') hfr)
  | seq x y ihx ihy =>
    intro Q σ a w h hf st
    rw [fits, Bool.and_eq_true] at hf
    refine wp_seq (wp_mono (ihx _ σ a w h hf.1 st) ?_)
    rintro e a' w' ⟨σ', hq, st', hfr⟩
    have hfr' : Fr (writes (.seq x y)) σ σ' := hfr.mono fun t ht => List.mem_append_left _ ht
    cases e with
    | normal =>
      refine wp_mono (ihy _ σ' a' w' hq hf.2 st') ?_
      rintro e2 a2 w2 ⟨σ2, hq2, st2, hfr2⟩
      exact ⟨σ2, hq2, st2, hfr'.trans (hfr2.mono fun t ht => List.mem_append_right _ ht)⟩
    | exit i => exact ⟨σ', hq, st', hfr'⟩
    | goto l => exact ⟨σ', hq, st', hfr'⟩
    | ret => exact ⟨σ', hq, st', hfr'⟩
    | panic ch => exact ⟨σ', hq, st', hfr'⟩
    | outgrown => exact ⟨σ', hq, st', hfr'⟩
  | cond cnd x y ihx ihy =>
    intro Q σ a w h hf st
    rw [fits, Bool.and_eq_true] at hf
    obtain ⟨⟨φ, s1⟩, s2⟩ := st
    rcases h with ⟨t, h1, h2, h3⟩ | ⟨es, h1, h2, h3⟩
    case inr =>
      have e0 := s1.evr cnd
      rw [h1] at e0
      simp only [Rep] at e0
      obtain ⟨t, e1, e2⟩ := e0
      refine wp_cond_split e1 (fun ht => ?_) (fun _ => ?_)
      · refine wp_mono (ihx _ σ a w (h2 (e2 ht)) hf.1 ⟨⟨φ, s1⟩, s2⟩) ?_
        rintro e a' w' ⟨σ', hq, st', hfr⟩
        exact ⟨σ', hq, st', hfr.mono fun t ht => List.mem_append_left _ ht⟩
      · refine wp_mono (ihy _ σ a w h3 hf.2 ⟨⟨φ, s1⟩, s2⟩) ?_
        rintro e a' w' ⟨σ', hq, st', hfr⟩
        exact ⟨σ', hq, st', hfr.mono fun t ht => List.mem_append_right _ ht⟩
    have e1 := rep_ex (s1.evr cnd) h1
    refine wp_cond_split e1 (fun ht => ?_) (fun ht => ?_)
    · refine wp_mono (ihx _ σ a w (h2 ht) hf.1 ⟨⟨φ, s1⟩, s2⟩) ?_
      rintro e a' w' ⟨σ', hq, st', hfr⟩
      exact ⟨σ', hq, st', hfr.mono fun t ht => List.mem_append_left _ ht⟩
    · refine wp_mono (ihy _ σ a w (h3 ht) hf.2 ⟨⟨φ, s1⟩, s2⟩) ?_
      rintro e a' w' ⟨σ', hq, st', hfr⟩
      exact ⟨σ', hq, st', hfr.mono fun t ht => List.mem_append_right _ ht⟩
  | block i x ih =>
    intro Q σ a w h hf st
    refine wp_block (wp_mono (ih _ σ a w h hf st) ?_)
    rintro e a' w' ⟨σ', hq, st', hfr⟩
    cases e with
    | exit j =>
      simp only [Exit.inBlock]
      simp only [ablock] at hq
      split
      · rename_i hj; rw [if_pos hj] at hq; exact ⟨σ', hq, st', hfr⟩
      · rename_i hj; rw [if_neg hj] at hq; exact ⟨σ', hq, st', hfr⟩
    | normal => exact ⟨σ', hq, st', hfr⟩
    | goto l => exact ⟨σ', hq, st', hfr⟩
    | ret => exact ⟨σ', hq, st', hfr⟩
    | panic ch => exact ⟨σ', hq, st', hfr⟩
    | outgrown => exact ⟨σ', hq, st', hfr⟩
  | loop x ih =>
    intro Q σ a w h hf st
    obtain ⟨I, n, h1, h2⟩ := h
    refine wp_loop_ghost (fun n a' w' => ∃ σ', I n σ' ∧ StC P M0 N w0 σ' a' w' ∧ Fr (writes (.loop x)) σ σ') n ⟨σ, h1, st, Fr.refl _ _⟩ ?_
    rintro n' a' w' ⟨σ', g1, g2, g3⟩
    refine wp_mono (ih _ σ' a' w' (h2 n' σ' g1 g3.1 g3.2) hf g2) ?_
    rintro e a2 w2 ⟨σ2, hq, st2, hfr⟩
    cases e with
    | normal =>
      obtain ⟨m, hm1, hm2⟩ := hq
      exact ⟨m, hm1, σ2, hm2, st2, g3.trans hfr⟩
    | exit j => exact ⟨σ2, hq, st2, g3.trans hfr⟩
    | goto l => exact ⟨σ2, hq, st2, g3.trans hfr⟩
    | ret => exact ⟨σ2, hq, st2, g3.trans hfr⟩
    | panic ch => exact ⟨σ2, hq, st2, g3.trans hfr⟩
    | outgrown => exact ⟨σ2, hq, st2, g3.trans hfr⟩
  | _ => exact fun Q σ a w h _ _ => h.elim
end
end Go.Proofs.YtapghdjbffmifaaDoor
