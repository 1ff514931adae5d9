/-
  A region in the order of its text, and a region that draws its order. Conditions: those that each theorem states.
-/
import Derived.Test.YtapghdjbffmifaaDoorAbs11
namespace Go.Proofs.YtapghdjbffmifaaDoor
open Go.RowKit
set_option maxRecDepth 100000

section
variable {P : Program} {C : World → Prop} {w : World} {M0 : Nat → Prop} {N : Nat} {w0 : World} {σ : AS} {a : Act} {K : AS → Prop} {Q : Exit → Act → World → Prop} {ops : Array Oper} {nd b : Nat}

/-- The state before operation i of a region whose names begin at b. -/
def SeqSt (P : Program) (M0 : Nat → Prop) (N : Nat) (w0 : World) (b i : Nat) (σ : AS) (a : Act) (w : World) : Prop :=
  (∃ φ, St P M0 N w0 (fun j => b + i ≤ j) φ σ a w) ∧ ∀ j, b + i ≤ j → σ.hp j = none
def Fr (ws : List Nat) (σ σ' : AS) : Prop := (∀ t, t ∉ ws → σ'.tm t = σ.tm t) ∧ σ.nx ≤ σ'.nx
theorem Fr.refl (ws : List Nat) (σ : AS) : Fr ws σ σ := ⟨fun _ _ => rfl, Nat.le_refl _⟩
theorem Fr.trans {ws : List Nat} {x y z : AS} (h : Fr ws x y) (k : Fr ws y z) : Fr ws x z := ⟨fun t ht => (k.1 t ht).trans (h.1 t ht), Nat.le_trans h.2 k.2⟩
theorem Fr.mono {ws ws' : List Nat} {x y : AS} (h : Fr ws x y) (hs : ∀ t, t ∈ ws → t ∈ ws') : Fr ws' x y := ⟨fun t ht => h.1 t fun h' => ht (hs t h'), h.2⟩
theorem put_hp (σ : AS) (d : Option Tmp) (u : AV) : (σ.put d u).hp = σ.hp := by cases d <;> rfl
theorem put_nx (σ : AS) (d : Option Tmp) (u : AV) : (σ.put d u).nx = σ.nx := by cases d <;> rfl
theorem put_fr (σ : AS) (d : Option Tmp) (u : AV) {ws : List Nat} (h : ∀ t, d = some t → t ∈ ws) : Fr ws σ (σ.put d u) := by
  refine ⟨fun t ht => ?_, by rw [put_nx]; exact Nat.le_refl _⟩
  cases d with
  | none => rfl
  | some d => exact upd_ne _ _ fun e => ht (e ▸ h d rfl)
theorem app_none {hp : Nat → Option Row1} {f : Eff} {id j : Nat} (hw : f.wf hp) (hj : hp j = none) (hne : j ≠ id) : f.app id hp j = none := by
  cases f with
  | none => exact hj
  | new β => exact (upd_ne _ _ hne).trans hj
  | set b β => exact (upd_ne _ _ fun e => hw (by rw [← e]; exact hj)).trans hj
  | grow b β =>
    refine (upd_ne _ _ hne).trans ?_
    by_cases e : j = b
    · rw [e]; exact upd_same _ _ _
    · exact (upd_ne _ _ e).trans hj
  | frz bs =>
    simp only [Eff.app]
    split
    · rw [hj]; rfl
    · exact hj

/-- One operation. -/
theorem aop_step (hC : ∀ w w', C w → Below w.heap.size w w' → C w') (hc0 : C w0) {draw : Bool} {i : Nat} {o : Oper} (hd : ∀ t, o.dst = some t → t < N) (h : aop P C draw (b + i) o K σ) (st : SeqSt P M0 N w0 b i σ a w)
    {KK : Act → World → Prop} (hk : ∀ σ' a' w', K σ' → SeqSt P M0 N w0 b (i + 1) σ' a' w' → (∀ ws, (∀ t, o.dst = some t → t ∈ ws) → Fr ws σ σ') → KK a' w') : o.wp P a w KK Q := by
  obtain ⟨⟨φ, st1⟩, st2⟩ := st
  obtain ⟨u, f, ⟨_, h1⟩, h2, h3⟩ := aval_lin h
  refine aval_sound (hp := σ.hp) (k := fun u' f' => u' = u ∧ f' = f) ⟨st1, Nat.le_refl _, fun _ _ _ h _ => h, hd⟩ ?_ hC hc0 (fun x _ => st1.evr x) h3
  rintro u' f' ⟨rfl, rfl⟩ φ' a' w' st'
  refine hk _ _ _ h1 ⟨⟨φ', st'.sub fun j hj => ⟨by omega, by omega⟩⟩, fun j hj => ?_⟩ fun ws hws => ?_
  · rw [put_hp]
    exact app_none h2 (st2 j (by omega)) (by omega)
  · exact (show Fr ws σ { σ with hp := f'.app (b + i) σ.hp } from ⟨fun _ _ => rfl, Nat.le_refl _⟩).trans (put_fr _ _ _ hws)
theorem skip_step {i : Nat} {o : Oper} (hd : ∀ t, o.dst = some t → t < N) (st : SeqSt P M0 N w0 b i σ a w) : SeqSt P M0 N w0 b (i + 1) (σ.put o.dst .junk) (a.put o.dst undef) w := by
  obtain ⟨⟨φ, st1⟩, st2⟩ := st
  exact ⟨⟨φ, (st1.sub fun j hj => by omega).putJ undef o.dst hd⟩, fun j hj => by rw [put_hp]; exact st2 j (by omega)⟩

theorem yielded_of {φ : Phi} {F : Nat → Prop} (st : St P M0 N w0 F φ σ a w) {g d : Nat} {t : Bool} (hg : (ops[g]?).bind (·.dst) = some d) (ht : σ.tm d = .ex (.bool t)) : yielded ops a.tmps g = some t := by
  have h := st.tmr d
  rw [ht] at h
  simp only [Rep] at h
  have h1 : a.tmps[d]? = some (.bool t) := by
    rw [Array.getD_eq_getD_getElem?] at h
    cases hh : a.tmps[d]? with
    | none => rw [hh] at h; simp [undef] at h
    | some v => rw [hh] at h; rw [← h.1]; rfl
  simp only [yielded, hg, Option.bind_some, h1]

/-- A region in the order of its text. -/
theorem aops_seq (hC : ∀ w w', C w → Below w.heap.size w w' → C w') (hc0 : C w0) : ∀ (rest : List Oper) (i : Nat) (σ : AS) (a : Act) (w : World), (∀ o ∈ rest, ∀ t, o.dst = some t → t < N) → aops P C ops nd b i rest K σ → SeqSt P M0 N w0 b i σ a w →
    (∀ σ' a' w', K σ' → SeqSt P M0 N w0 b (i + rest.length) σ' a' w' → Fr (rest.filterMap (·.dst)) σ σ' → Q .normal a' w') → wpList P ops Q rest a w
  | [], i, σ, a, w, _, h, st, hk => hk σ a w h st (Fr.refl _ _)
  | o :: rest, i, σ, a, w, hd, h, st, hk => by
    have hsub : ∀ ws' : List Nat, ∀ t, t ∈ rest.filterMap (·.dst) → t ∈ (o :: rest).filterMap (·.dst) := by
      intro _ t ht
      rw [List.filterMap_cons]
      split
      · exact ht
      · exact List.mem_cons_of_mem _ ht
    have hhd : ∀ t, o.dst = some t → t ∈ (o :: rest).filterMap (·.dst) := by
      intro t ht
      rw [List.filterMap_cons, ht]
      exact List.mem_cons_self
    have go : ∀ σ1 a1 w1, aops P C ops nd b (i + 1) rest K σ1 → SeqSt P M0 N w0 b (i + 1) σ1 a1 w1 → Fr ((o :: rest).filterMap (·.dst)) σ σ1 → wpList P ops Q rest a1 w1 := by
      intro σ1 a1 w1 h1 st1 hf
      refine aops_seq hC hc0 rest (i + 1) σ1 a1 w1 (fun x hx => hd x (by simp [hx])) h1 st1 fun σ' a' w' h2 st2 hf2 => ?_
      refine hk σ' a' w' h2 ?_ (hf.trans (hf2.mono (hsub [])))
      rwa [List.length_cons, show i + (rest.length + 1) = i + 1 + rest.length by omega]
    unfold aops at h
    unfold wpList
    split at h
    · rename_i hg
      rw [if_pos (by simp [Region.wanted, hg])]
      exact .inl (aop_step hC hc0 (hd o (by simp)) h st fun σ' a' w' h1 st1 hf => go σ' a' w' h1 st1 (hf _ hhd))
    · rename_i g want hg
      obtain ⟨t, h1, h⟩ := h
      obtain ⟨⟨φ, st1⟩, st2⟩ := st
      cases hb : (ops[g]?).bind (·.dst) with
      | none => rw [hb] at h1; cases h1
      | some d =>
        rw [hb] at h1
        have hy := yielded_of (ops := ops) st1 hb (by simpa using h1)
        by_cases ht : t = want
        · rw [if_pos ht] at h
          rw [if_pos (by simp [Region.wanted, hg, hy, ht])]
          exact .inl (aop_step hC hc0 (hd o (by simp)) h ⟨⟨φ, st1⟩, st2⟩ fun σ' a' w' h1 st1 hf => go σ' a' w' h1 st1 (hf _ hhd))
        · rw [if_neg ht] at h
          rw [if_neg (by simp [Region.wanted, hg, hy, ht])]
          exact go _ _ _ h (skip_step (hd o (by simp)) ⟨⟨φ, st1⟩, st2⟩) (put_fr _ _ _ hhd)
end
end Go.Proofs.YtapghdjbffmifaaDoor
