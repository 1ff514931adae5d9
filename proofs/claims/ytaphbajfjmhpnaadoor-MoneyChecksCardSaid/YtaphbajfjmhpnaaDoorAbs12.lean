/-
  A region in the order of its text, and a region that draws its order. Conditions: those that each theorem states.
-/
import Derived.Test.YtaphbajfjmhpnaaDoorAbs11
namespace Go.Proofs.YtaphbajfjmhpnaaDoor
open Go.RowKit
set_option maxRecDepth 100000

section
variable {P : Program} {C : World → Prop} {w : World} {M0 : Nat → Prop} {N : Nat} {w0 : Root} {σ : AS} {a : Act} {K : AS → Prop} {Q : Exit → Act → World → Prop} {ops : Array Oper} {nd b : Nat}

/-- The state before operation i of a region whose names begin at b. -/
def SeqSt (P : Program) (M0 : Nat → Prop) (N : Nat) (w0 : Root) (b i : Nat) (σ : AS) (a : Act) (w : World) : Prop :=
  (∃ φ, St P M0 N w0 (fun j => b + i ≤ j) φ σ a w) ∧ ∀ j, b + i ≤ j → σ.hp j = none
def Fr (ws : List Nat) (σ σ' : AS) : Prop := (∀ t, t ∉ ws → σ'.tm t = σ.tm t) ∧ σ.nx ≤ σ'.nx
theorem Fr.refl (ws : List Nat) (σ : AS) : Fr ws σ σ := ⟨fun _ _ => rfl, Nat.le_refl _⟩
theorem Fr.trans {ws : List Nat} {x y z : AS} (h : Fr ws x y) (k : Fr ws y z) : Fr ws x z := ⟨fun t ht => (k.1 t ht).trans (h.1 t ht), Nat.le_trans h.2 k.2⟩
theorem Fr.mono {ws ws' : List Nat} {x y : AS} (h : Fr ws x y) (hs : ∀ t, t ∈ ws → t ∈ ws') : Fr ws' x y := ⟨fun t ht => h.1 t fun h' => ht (hs t h'), h.2⟩
theorem put_hp (σ : AS) (d : Option Tmp) (u : AV) : (σ.put d u).hp = σ.hp := by cases d <;> rfl
theorem put_nx (σ : AS) (d : Option Tmp) (u : AV) : (σ.put d u).nx = σ.nx := by cases d <;> rfl
theorem put_fr (σ : AS) (d : Option Tmp) (u : AV) {ws : List Nat} (h : ∀ t, d = some t → t ∈ ws) : Fr ws σ (σ.put d u) := by
  refine ⟨fun t ht => ?_, by rw [put_nx]; exact Nat.le_refl _⟩
  cases d with
  | none => rfl
  | some d => exact upd_ne _ _ fun e => ht (e ▸ h d rfl)
theorem app_none {pp : Nat → Prop} {hp : Nat → Option Row1} {f : Eff} {id j : Nat} (hw : f.wf pp hp) (hj : hp j = none) (hne : j ≠ id) : f.app id hp j = none := by
  cases f with
  | none => exact hj
  | new β => exact (upd_ne _ _ hne).trans hj
  | set b β => exact (upd_ne _ _ fun e => hw.1 (by rw [← e]; exact hj)).trans hj
  | alc t z => exact (upd_ne _ _ hne).trans hj
  | grow b β =>
    refine (upd_ne _ _ hne).trans ?_
    by_cases e : j = b
    · rw [e]; exact upd_same _ _ _
    · exact (upd_ne _ _ e).trans hj
  | frz bs =>
    simp only [Eff.app]
    split
    · rw [hj]; rfl
    · exact hj

/-- Of a new box less is known. -/
theorem st_md {F : Nat → Prop} {φ : Phi} {f : Eff} {draw : Bool} {id : Nat} (st : St P M0 N w0 F φ { σ with hp := f.app id σ.hp } a w) : St P M0 N w0 F φ { σ with hp := (f.md draw).app id σ.hp } a w := by
  cases f with
  | alc t z =>
    cases draw with
    | false => exact st
    | true =>
      have := st.weak (b := id) (β := ⟨t, [blank z], true⟩) (γ := ⟨t, [z], true⟩) (upd_same _ _ _) ⟨rfl, rfl, blank_wk z, trivial⟩
      have e : upd (upd σ.hp id (some ⟨t, [z], true⟩)) id (some ⟨t, [blank z], true⟩) = upd σ.hp id (some ⟨t, [blank z], true⟩) := by
        funext x
        simp only [upd]
        split <;> rfl
      dsimp only [Eff.app] at this
      rw [e] at this
      exact this
  | none => exact st
  | new β => exact st
  | set b β => exact st
  | grow b β => exact st
  | frz bs => exact st
theorem st_hp {F : Nat → Prop} {φ : Phi} {f : Eff} {draw : Bool} {id : Nat} {τ : AS} {hp0 : Nat → Option Row1} (st : St P M0 N w0 F φ { τ with hp := f.app id hp0 } a w) : St P M0 N w0 F φ { τ with hp := (f.md draw).app id hp0 } a w :=
  st_md (σ := { τ with hp := hp0 }) st
theorem md_none {pp : Nat → Prop} {hp : Nat → Option Row1} {f : Eff} {draw : Bool} {id j : Nat} (hw : f.wf pp hp) (hj : hp j = none) (hne : j ≠ id) : (f.md draw).app id hp j = none := by
  cases f with
  | alc t z => cases draw <;> exact (upd_ne _ _ hne).trans hj
  | none => exact app_none hw hj hne
  | new β => exact app_none hw hj hne
  | set b β => exact app_none hw hj hne
  | grow b β => exact app_none hw hj hne
  | frz bs => exact app_none hw hj hne
theorem St.put' {F : Nat → Prop} {φ : Phi} {d : Option Tmp} {u : AV} {hp1 hp2 : Nat → Option Row1} (st : St P M0 N w0 F φ ({ σ with hp := hp1 }.put d u) a w) (h : ∀ τ : AS, St P M0 N w0 F φ { τ with hp := hp1 } a w → St P M0 N w0 F φ { τ with hp := hp2 } a w) : St P M0 N w0 F φ ({ σ with hp := hp2 }.put d u) a w := by
  cases d with
  | none => exact h σ st
  | some d => exact h { σ with tm := upd σ.tm d u } st
/-- One operation. -/
theorem aop_step (hC : ∀ w w', C w → Below w.heap.size w w' → C w') (hc0 : C w0) {draw last : Bool} {i : Nat} {o : Oper} (hd : ∀ t, o.dst = some t → t < N) (h : aop P C draw last (b + i) o K σ) (st : SeqSt P M0 N w0 b i σ a w)
    {KK : Act → World → Prop} (hk : ∀ σ' a' w', K σ' → SeqSt P M0 N w0 b (i + 1) σ' a' w' → (∀ ws, (∀ t, o.dst = some t → t ∈ ws) → Fr ws σ σ') → KK a' w') : o.wp P a w KK Q := by
  obtain ⟨⟨φ, st1⟩, st2⟩ := st
  obtain ⟨u, f, ⟨_, h1⟩, h2, h3⟩ := aval_lin (pp := fun _ => True) (fun _ _ _ _ _ _ => trivial) h
  refine aval_sound (hp := σ.hp) (k := fun u' f' => u' = u ∧ f' = f) ⟨st1, Nat.le_refl _, fun _ β _ h _ => ⟨β, h, wkR_refl β⟩, hd⟩ ?_ hC hc0 (fun x _ => st1.evr x) h3
  rintro u' f' ⟨rfl, rfl⟩ φ' a' w' st'
  refine hk _ _ _ h1 ⟨⟨φ', (st'.put' fun τ ht => st_hp ht).sub fun j hj => ⟨by omega, by omega⟩⟩, fun j hj => ?_⟩ fun ws hws => ?_
  · rw [put_hp]
    exact md_none h2 (st2 j (by omega)) (by omega)
  · exact (show Fr ws σ { σ with hp := (f'.md draw).app (b + i) σ.hp } from ⟨fun _ _ => rfl, Nat.le_refl _⟩).trans (put_fr _ _ _ hws)
theorem skip_step {i : Nat} {o : Oper} (hd : ∀ t, o.dst = some t → t < N) (st : SeqSt P M0 N w0 b i σ a w) : SeqSt P M0 N w0 b (i + 1) (σ.put o.dst .und) (a.put o.dst undef) w := by
  obtain ⟨⟨φ, st1⟩, st2⟩ := st
  exact ⟨⟨φ, (st1.sub fun j hj => by omega).putU o.dst hd⟩, fun j hj => by rw [put_hp]; exact st2 j (by omega)⟩

theorem yielded_of {φ : Phi} {F : Nat → Prop} (st : St P M0 N w0 F φ σ a w) {g d : Nat} {t : Bool} (hg : (ops[g]?).bind (·.dst) = some d) (ht : σ.tm d = .ex (.bool t)) : yielded ops a.tmps g = some t := by
  have h := st.tmr d
  rw [ht] at h
  simp only [Rep] at h
  have h1 : a.tmps[d]? = some (.bool t) := by
    rw [Array.getD_eq_getD_getElem?] at h
    cases hh : a.tmps[d]? with
    | none => rw [hh] at h; simp [undef] at h
    | some v => rw [hh] at h; rw [← h.1]; rfl
  simp only [yielded, hg, Option.bind_some, h1]

theorem yielded_und {φ : Phi} {F : Nat → Prop} (st : St P M0 N w0 F φ σ a w) {g d : Nat} (hg : (ops[g]?).bind (·.dst) = some d) (ht : σ.tm d = .und) : yielded ops a.tmps g = none := by
  have h := st.tmr d
  rw [ht] at h
  simp only [Rep] at h
  rw [Array.getD_eq_getD_getElem?] at h
  simp only [yielded, hg, Option.bind_some]
  cases hh : a.tmps[d]? with
  | none => rfl
  | some v =>
    rw [hh] at h
    simp only [Option.getD_some] at h
    rw [h]; rfl
/-- A region in the order of its text. -/
theorem aops_seq (hC : ∀ w w', C w → Below w.heap.size w w' → C w') (hc0 : C w0) : ∀ (rest : List Oper) (i : Nat) (σ : AS) (a : Act) (w : World), (∀ o ∈ rest, ∀ t, o.dst = some t → t < N) → aops P C ops nd b i rest K σ → SeqSt P M0 N w0 b i σ a w →
    (∀ σ' a' w', K σ' → SeqSt P M0 N w0 b (i + rest.length) σ' a' w' → Fr (rest.filterMap (·.dst)) σ σ' → Q .normal a' w') → wpList P ops Q rest a w
  | [], i, σ, a, w, _, h, st, hk => hk σ a w h st (Fr.refl _ _)
  | o :: rest, i, σ, a, w, hd, h, st, hk => by
    have hsub : ∀ ws' : List Nat, ∀ t, t ∈ rest.filterMap (·.dst) → t ∈ (o :: rest).filterMap (·.dst) := by
      intro _ t ht
      rw [List.filterMap_cons]
      split
      · exact ht
      · exact List.mem_cons_of_mem _ ht
    have hhd : ∀ t, o.dst = some t → t ∈ (o :: rest).filterMap (·.dst) := by
      intro t ht
      rw [List.filterMap_cons, ht]
      exact List.mem_cons_self
    have go : ∀ σ1 a1 w1, aops P C ops nd b (i + 1) rest K σ1 → SeqSt P M0 N w0 b (i + 1) σ1 a1 w1 → Fr ((o :: rest).filterMap (·.dst)) σ σ1 → wpList P ops Q rest a1 w1 := by
      intro σ1 a1 w1 h1 st1 hf
      refine aops_seq hC hc0 rest (i + 1) σ1 a1 w1 (fun x hx => hd x (by simp [hx])) h1 st1 fun σ' a' w' h2 st2 hf2 => ?_
      refine hk σ' a' w' h2 ?_ (hf.trans (hf2.mono (hsub [])))
      rwa [List.length_cons, show i + (rest.length + 1) = i + 1 + rest.length by omega]
    unfold aops at h
    unfold wpList
    split at h
    · rename_i hg
      rw [if_pos (by simp [Region.wanted, hg])]
      exact .inl (aop_step hC hc0 (hd o (by simp)) h st fun σ' a' w' h1 st1 hf => go σ' a' w' h1 st1 (hf _ hhd))
    · rename_i g want hg
      obtain ⟨⟨φ, st1⟩, st2⟩ := st
      rcases h with ⟨t, h1, h⟩ | ⟨h1, h⟩
      rotate_left
      · cases hb : (ops[g]?).bind (·.dst) with
        | none => rw [hb] at h1; cases h1
        | some d =>
          rw [hb] at h1
          have hy := yielded_und (ops := ops) st1 hb (by simpa using h1)
          rw [if_neg (by simp [Region.wanted, hg, hy])]
          exact go _ _ _ h (skip_step (hd o (by simp)) ⟨⟨φ, st1⟩, st2⟩) (put_fr _ _ _ hhd)
      cases hb : (ops[g]?).bind (·.dst) with
      | none => rw [hb] at h1; cases h1
      | some d =>
        rw [hb] at h1
        have hy := yielded_of (ops := ops) st1 hb (by simpa using h1)
        by_cases ht : t = want
        · rw [if_pos ht] at h
          rw [if_pos (by simp [Region.wanted, hg, hy, ht])]
          exact .inl (aop_step hC hc0 (hd o (by simp)) h ⟨⟨φ, st1⟩, st2⟩ fun σ' a' w' h1 st1 hf => go σ' a' w' h1 st1 (hf _ hhd))
        · rw [if_neg ht] at h
          rw [if_neg (by simp [Region.wanted, hg, hy, ht])]
          exact go _ _ _ h (skip_step (hd o (by simp)) ⟨⟨φ, st1⟩, st2⟩) (put_fr _ _ _ hhd)
end
end Go.Proofs.YtaphbajfjmhpnaaDoor

namespace Go.Proofs.YtaphbajfjmhpnaaDoor
open Go.RowKit
set_option maxRecDepth 100000

inductive Reach (ops : Array Oper) : Nat → Nat → Prop where
  | edge {j e : Nat} {o : Oper} : ops[j]? = some o → e ∈ edgesTo o → Reach ops j e
  | more {j e i : Nat} {o : Oper} : ops[j]? = some o → e ∈ edgesTo o → Reach ops e i → Reach ops j i
theorem mask_bit {ops : Array Oper} {acc : List Nat} (hacc : ∀ j i, (acc.getD j 0).testBit i = true → Reach ops j i) (j i : Nat) {o : Oper} (ho : ops[j]? = some o) : ∀ (l : List Nat) (m : Nat), (∀ e ∈ l, e ∈ edgesTo o) → (m.testBit i = true → Reach ops j i) →
    (l.foldl (fun m i => m ||| 2 ^ i ||| acc.getD i 0) m).testBit i = true → Reach ops j i
  | [], m, _, hm, h => hm h
  | e :: l, m, hl, hm, h => by
    rw [List.foldl_cons] at h
    refine mask_bit hacc j i ho l _ (fun x hx => hl x (by simp [hx])) ?_ h
    intro hb
    rw [Nat.testBit_or, Nat.testBit_or, Bool.or_eq_true, Bool.or_eq_true, Nat.testBit_two_pow] at hb
    rcases hb with (hb | hb) | hb
    · exact hm hb
    · have : e = i := by simpa using hb
      subst this
      exact .edge ho (hl e (by simp))
    · exact .more ho (hl e (by simp)) (hacc e i hb)
theorem masks_reach {ops : Array Oper} : ∀ (rest : List Oper) (acc : List Nat), (∀ j, rest[j]? = ops[acc.length + j]?) → (∀ j i, (acc.getD j 0).testBit i = true → Reach ops j i) → ∀ j i, ((masks acc rest).getD j 0).testBit i = true → Reach ops j i
  | [], acc, _, h, j, i, hb => h j i hb
  | o :: rest, acc, hr, h, j, i, hb => by
    refine masks_reach rest (acc ++ [maskOf acc o]) (fun q => ?_) (fun q i hb => ?_) j i hb
    · have := hr (q + 1)
      rw [List.getElem?_cons_succ] at this
      rw [this, List.length_append, List.length_singleton]
      congr 1
      omega
    · have ho : ops[acc.length]? = some o := by have := hr 0; simpa using this.symm
      rcases Nat.lt_trichotomy q acc.length with hq | hq | hq
      · rw [List.getD_eq_getElem?_getD, List.getElem?_append_left hq, ← List.getD_eq_getElem?_getD] at hb
        exact h q i hb
      · subst hq
        have : (acc ++ [maskOf acc o]).getD acc.length 0 = maskOf acc o := by simp
        rw [this] at hb
        exact mask_bit h acc.length i ho (edgesTo o) 0 (fun _ h => h) (fun hz => by simp at hz) hb
      · have : (acc ++ [maskOf acc o]).getD q 0 = 0 := by
          rw [List.getD_eq_getElem?_getD, List.getElem?_eq_none (by simp; omega)]; rfl
        rw [this] at hb
        simp at hb
theorem tail_cover {ms : List Nat} : ∀ (n j : Nat), tailFrom ms n ≤ j → j < n → cover ms j = true
  | 0, j, _, h => absurd h (by omega)
  | n + 1, j, h, hj => by
    unfold tailFrom at h
    split at h
    · rename_i hc
      rcases Nat.lt_or_ge j n with hlt | hge
      · exact tail_cover n j h hlt
      · have : j = n := by omega
        rw [this]; exact hc
    · omega
theorem tail_le {ms : List Nat} : ∀ n, tailFrom ms n ≤ n
  | 0 => Nat.le_refl _
  | n + 1 => by unfold tailFrom; split; exact Nat.le_succ_of_le (tail_le n); exact Nat.le_refl _
theorem drawn_reach {ops : Array Oper} {j i : Nat} (h : drawn ops ≤ j) (hj : j < ops.size) (hi : i < j) : Reach ops j i := by
  have hc := tail_cover ops.size j h hj
  unfold cover at hc
  have := List.all_eq_true.1 hc i (by simpa using hi)
  exact masks_reach ops.toList [] (fun j => by simp) (fun j i hb => by simp at hb) j i this

/-- What is listed is closed. -/
def Closed (ops : Array Oper) (l : Array Bool) : Prop := ∀ j o e, l.getD j false = true → ops[j]? = some o → e ∈ edgesTo o → l.getD e false = true
theorem Closed.reach {ops : Array Oper} {l : Array Bool} (h : Closed ops l) {j i : Nat} (hr : Reach ops j i) : (∀ o e, ops[j]? = some o → e ∈ edgesTo o → l.getD e false = true) → l.getD i false = true := by
  induction hr with
  | edge ho he => exact fun hh => hh _ _ ho he
  | more ho he _ ih => exact fun hh => ih fun o' e' ho' he' => h _ o' e' (hh _ _ ho he) ho' he'
theorem edge_mem {o : Oper} {e : Edge} (h : e ∈ o.after) (hb : Region.binds .any e = true) : e.on ∈ edgesTo o := by
  unfold edgesTo
  exact List.mem_map.2 ⟨e, List.mem_filter.2 ⟨by simpa using h, hb⟩, rfl⟩
theorem mem_edge {o : Oper} {i : Nat} (h : i ∈ edgesTo o) : ∃ e ∈ o.after, Region.binds .any e = true ∧ e.on = i := by
  unfold edgesTo at h
  obtain ⟨e, h1, rfl⟩ := List.mem_map.1 h
  obtain ⟨h2, h3⟩ := List.mem_filter.1 h1
  exact ⟨e, by simpa using h2, h3, rfl⟩
theorem ready_iff {ops : Array Oper} {l : Array Bool} {j : Nat} : j ∈ Region.ready .any ops l ↔ l.getD j true = false ∧ ∃ o, ops[j]? = some o ∧ ∀ e, e ∈ edgesTo o → l.getD e false = true := by
  rw [mem_ready]
  constructor
  · rintro ⟨h0, o, ho, h⟩
    exact ⟨h0, o, ho, fun e he => by obtain ⟨x, h1, h2, rfl⟩ := mem_edge he; exact h x h1 h2⟩
  · rintro ⟨h0, o, ho, h⟩
    exact ⟨h0, o, ho, fun e he hb => h _ (edge_mem he hb)⟩

/-- What 'orderOk' says. -/
structure Ord (ops : Array Oper) (nd : Nat) : Prop where
  back : ∀ (j : Nat) (o : Oper) (e : Nat), ops[j]? = some o → e ∈ edgesTo o → e < j
  sel : ∀ (j : Nat) (o : Oper) (cs : Array SelectCase) (b : Bool), ops[j]? = some o → o.op ≠ .select cs b
  once : ∀ (i j : Nat) (oi oj : Oper) (d : Tmp), i < nd → ops[i]? = some oi → ops[j]? = some oj → oi.dst = some d → oj.dst = some d → i = j
  side : ∀ (i j : Nat) (oi oj : Oper) (d : Tmp), i < nd → i ≠ j → ops[i]? = some oi → ops[j]? = some oj → oi.dst = some d → d ∈ oj.looksAt ops → i ∈ edgesTo oj ∨ j ∈ edgesTo oi
theorem ord_of {ops : Array Oper} {nd : Nat} (h : orderOk ops nd = true) : Ord ops nd := by
  unfold orderOk at h
  have key : ∀ (j : Nat) (o : Oper), ops[j]? = some o → ((edgesTo o).all (fun i => decide (i < j)) = true) ∧ (∀ (cs : Array SelectCase) (b : Bool), o.op ≠ .select cs b) ∧
      ∀ i, i < nd → ∀ (oi : Oper) (d : Tmp), ops[i]? = some oi → oi.dst = some d → i = j ∨ (o.dst ≠ some d ∧ (d ∈ o.looksAt ops → i ∈ edgesTo o ∨ j ∈ edgesTo oi)) := by
    intro j o ho
    have hj : j < ops.size := (Array.getElem?_eq_some_iff.1 ho).1
    have := List.all_eq_true.1 h j (by simpa using hj)
    rw [ho] at this
    simp only [Bool.and_eq_true] at this
    obtain ⟨⟨⟨h1, _⟩, h2⟩, h3⟩ := this
    refine ⟨h1, fun cs b e => (by rw [e] at h2; cases h2), fun i hi oi d hoi hd => ?_⟩
    have := List.all_eq_true.1 h3 i (by simpa using hi)
    rw [hoi] at this
    simp only [hd] at this
    rw [Bool.or_eq_true, Bool.and_eq_true, Bool.or_eq_true, Bool.or_eq_true] at this
    rcases this with h4 | ⟨h4, h5⟩
    · exact .inl (by simpa using h4)
    · refine .inr ⟨by simpa using h4, fun hm => ?_⟩
      rcases h5 with (h5 | h5) | h5
      · simp at h5; exact absurd hm h5
      · exact .inl (by simpa using h5)
      · exact .inr (by simpa using h5)
  refine ⟨fun j o e ho he => by simpa using List.all_eq_true.1 (key j o ho).1 e he, fun j o cs b ho => (key j o ho).2.1 cs b, ?_, ?_⟩
  · intro i j oi oj d hi hoi hoj hdi hdj
    rcases (key j oj hoj).2.2 i hi oi d hoi hdi with h4 | ⟨h4, _⟩
    · exact h4
    · exact absurd hdj h4
  · intro i j oi oj d hi hne hoi hoj hd hm
    rcases (key j oj hoj).2.2 i hi oi d hoi hd with h4 | ⟨_, h4⟩
    · exact absurd h4 hne
    · exact h4 hm

/-- A slot's value where some operations have been carried out. -/
def tmAt (ops : Array Oper) (nd : Nat) (vs : Nat → AV) (tm : Nat → AV) (l : Nat → Bool) (t : Nat) : AV :=
  match (List.range nd).find? fun j => l j && (((ops[j]?).bind (·.dst)) == some t) with
  | some j => vs j
  | none => tm t
theorem tmAt_hit {ops : Array Oper} {nd : Nat} {vs tm : Nat → AV} {l : Nat → Bool} {t i : Nat} {o : Oper} (hO : Ord ops nd) (hi : i < nd) (hl : l i = true) (ho : ops[i]? = some o) (hd : o.dst = some t) : tmAt ops nd vs tm l t = vs i := by
  unfold tmAt
  cases hf : (List.range nd).find? fun j => l j && (((ops[j]?).bind (·.dst)) == some t) with
  | none =>
    have := List.find?_eq_none.1 hf i (by simpa using hi)
    simp [hl, ho, hd] at this
  | some j =>
    have h1 := List.find?_some hf
    have h2 := List.mem_of_find?_eq_some hf
    rw [Bool.and_eq_true, beq_iff_eq] at h1
    cases hoj : ops[j]? with
    | none => rw [hoj] at h1; simp at h1
    | some oj =>
      rw [hoj] at h1
      have := hO.once j i oj o t (by simpa using h2) hoj ho (by simpa using h1.2) hd
      rw [this]
theorem tmAt_miss {ops : Array Oper} {nd : Nat} {vs tm : Nat → AV} {l : Nat → Bool} {t : Nat} (h : ∀ j o, j < nd → ops[j]? = some o → o.dst = some t → l j = false) : tmAt ops nd vs tm l t = tm t := by
  unfold tmAt
  have : ((List.range nd).find? fun j => l j && (((ops[j]?).bind (·.dst)) == some t)) = none := by
    rw [List.find?_eq_none]
    intro j hj
    cases hoj : ops[j]? with
    | none => simp
    | some oj =>
      by_cases hd : oj.dst = some t
      · simp [h j oj (by simpa using hj) hoj hd]
      · simp [hd]
  rw [this]
theorem tmAt_congr {ops : Array Oper} {nd : Nat} {vs vs' tm : Nat → AV} {l l' : Nat → Bool} {t : Nat} (hO : Ord ops nd) (h : ∀ j o, j < nd → ops[j]? = some o → o.dst = some t → l j = l' j ∧ (l j = true → vs j = vs' j)) : tmAt ops nd vs tm l t = tmAt ops nd vs' tm l' t := by
  by_cases hex : ∃ j o, j < nd ∧ ops[j]? = some o ∧ o.dst = some t ∧ l j = true
  · obtain ⟨j, o, h1, h2, h3, h4⟩ := hex
    have := h j o h1 h2 h3
    rw [tmAt_hit hO h1 h4 h2 h3, tmAt_hit hO h1 (this.1 ▸ h4) h2 h3, this.2 h4]
  · have h0 : ∀ j o, j < nd → ops[j]? = some o → o.dst = some t → l j = false := fun j o h1 h2 h3 => by
      cases hl : l j with
      | false => rfl
      | true => exact absurd ⟨j, o, h1, h2, h3, hl⟩ hex
    rw [tmAt_miss h0, tmAt_miss fun j o h1 h2 h3 => by rw [← (h j o h1 h2 h3).1]; exact h0 j o h1 h2 h3]

def evT (tm : Nat → AV) : Operand → AV := AS.ev ⟨tm, fun _ => none, 0⟩
theorem ev_evT (σ : AS) : σ.ev = evT σ.tm := by funext x; cases x <;> rfl
def Want (ops : Array Oper) (tm : Nat → AV) (o : Oper) : Prop := match o.guard with
  | none => True
  | some (g, want) => ∃ d, (ops[g]?).bind (·.dst) = some d ∧ tm d = .ex (.bool want)
def Unwant (ops : Array Oper) (tm : Nat → AV) (o : Oper) : Prop := match o.guard with
  | none => False
  | some (g, want) => ∃ d, (ops[g]?).bind (·.dst) = some d ∧ ((∃ t, tm d = .ex (.bool t) ∧ t ≠ want) ∨ tm d = .und)
/-- What the order of the text gives of operation q, where all new rows are in H. -/
def StepOk (P : Program) (C : World → Prop) (ops : Array Oper) (b : Nat) (u : AV) (tm : Nat → AV) (H : Nat → Option Row1) (q : Nat) : Prop :=
  ∃ o, ops[q]? = some o ∧
    ((Want ops tm o ∧ ∃ f hpq, f.quiet = true ∧ aval P C (b + q) o.op o.type (evT tm) hpq (fun u' f' => u' = u ∧ f' = f) ∧ (∀ x β, hpq x = some β → H x = some β) ∧ (∀ β, f.md true = .new β → H (b + q) = some β)) ∨
     (Unwant ops tm o ∧ u = .und))
/-- A write of a box that may come in another order: which operation, which box, what is known of it before and behind. -/
abbrev Late := Option (Nat × Nat × Row1 × Row1)
def lateHp (S : Late) (H : Nat → Option Row1) (l : Nat → Bool) : Nat → Option Row1 := match S with
  | none => H
  | some (s, c, _, γ) => if l s then upd H c (some γ) else H
def StepLate (P : Program) (C : World → Prop) (ops : Array Oper) (b : Nat) (u : AV) (tm : Nat → AV) (H : Nat → Option Row1) (q c : Nat) (β γ : Row1) : Prop :=
  ∃ o, ops[q]? = some o ∧ Want ops tm o ∧ (∃ x, x ∈ o.op.operands ∧ ∃ j off, evT tm x = .pt c j off) ∧ H c = some β ∧ wkR β γ ∧
    ∃ hpq, aval P C (b + q) o.op o.type (evT tm) hpq (fun u' f' => u' = u ∧ f' = .set c γ) ∧ (∀ x δ, hpq x = some δ → H x = some δ)
theorem lateHp_f {s c : Nat} {β γ : Row1} {H : Nat → Option Row1} {l : Nat → Bool} (h : l s = false) : lateHp (some (s, c, β, γ)) H l = H := by
  unfold lateHp; simp [h]
theorem lateHp_t {s c : Nat} {β γ : Row1} {H : Nat → Option Row1} {l : Nat → Bool} (h : l s = true) : lateHp (some (s, c, β, γ)) H l = upd H c (some γ) := by
  unfold lateHp; simp [h]
theorem lateHp_congr {S : Late} {H : Nat → Option Row1} {l l' : Nat → Bool} (h : ∀ s c β γ, S = some (s, c, β, γ) → l s = l' s) : lateHp S H l = lateHp S H l' := by
  cases S with
  | none => rfl
  | some x =>
    obtain ⟨s, c, β, γ⟩ := x
    unfold lateHp
    dsimp only
    rw [h s c β γ rfl]
theorem StepOk.up {P : Program} {C : World → Prop} {ops : Array Oper} {b : Nat} {u : AV} {tm : Nat → AV} {H H' : Nat → Option Row1} {q : Nat} (h : StepOk P C ops b u tm H q) (hh : ∀ x β, H x = some β → H' x = some β) : StepOk P C ops b u tm H' q := by
  obtain ⟨o, h1, h2⟩ := h
  refine ⟨o, h1, h2.imp ?_ fun h => h⟩
  rintro ⟨hw, f, hpq, g1, g2, g3, g4⟩
  exact ⟨hw, f, hpq, g1, g2, fun x β hx => hh _ _ (g3 x β hx), fun β e => hh _ _ (g4 β e)⟩

section
variable {P : Program} {C : World → Prop} {K : AS → Prop} {ops : Array Oper} {nd b : Nat}
theorem quiet_app {f : Eff} (hq : f.quiet = true) {id : Nat} {hp : Nat → Option Row1} (hid : hp id = none) : (∀ x β, hp x = some β → f.app id hp x = some β) ∧ (∀ β, f = .new β → f.app id hp id = some β) ∧ (∀ x, x ≠ id → f.app id hp x = hp x) := by
  cases f with
  | none => exact ⟨fun _ _ h => h, fun _ h => (by cases h), fun _ _ => rfl⟩
  | new β => exact ⟨fun x γ h => (upd_ne _ _ fun e => (by rw [e, hid] at h; cases h)).trans h, fun γ h => (by cases h; exact upd_same _ _ _), fun x hx => upd_ne _ _ hx⟩
  | set b β => cases hq
  | grow b β => cases hq
  | alc t z => exact ⟨fun x γ h => (upd_ne _ _ fun e => (by rw [e, hid] at h; cases h)).trans h, fun γ h => (by cases h), fun x hx => upd_ne _ _ hx⟩
  | frz bs =>
    cases bs with
    | nil => exact ⟨fun x β h => (by rw [frz_nil]; exact h), fun _ h => (by cases h), fun x _ => (by rw [frz_nil])⟩
    | cons _ _ => cases hq
/-- The order of the text, up to operation j of those that may come in another order. -/
theorem lex_pre (hO : Ord ops nd) (hnd : nd ≤ ops.size) {σ : AS} (h : aops P C ops nd b 0 ops.toList K σ) (hn : ∀ x, b ≤ x → σ.hp x = none) : ∀ j, j ≤ nd →
    ∃ (vs : Nat → AV) (σj : AS) (H : Nat → Option Row1) (S : Late), aops P C ops nd b j (ops.toList.drop j) K σj ∧ σj.nx = σ.nx ∧ (∀ x, b + j ≤ x → σj.hp x = none) ∧ (∀ x, x < b → H x = σ.hp x) ∧ (∀ t, σj.tm t = tmAt ops nd vs σ.tm (fun q => decide (q < j)) t) ∧
      σj.hp = lateHp S H (fun q => decide (q < j)) ∧ (∀ s c β γ, S = some (s, c, β, γ) → j = nd ∧ s + 1 = nd ∧ StepLate P C ops b (vs s) (tmAt ops nd vs σ.tm (fun x => decide (x < s))) H s c β γ) ∧
      ∀ q, q < j → (∀ s c β γ, S = some (s, c, β, γ) → q ≠ s) → StepOk P C ops b (vs q) (tmAt ops nd vs σ.tm (fun x => decide (x < q))) H q := by
  intro j
  induction j with
  | zero =>
    intro _
    exact ⟨fun _ => .junk, σ, σ.hp, none, by simpa using h, rfl, fun x hx => hn x (by omega), fun _ _ => rfl, fun t => (tmAt_miss fun _ _ _ _ _ => by simp).symm, rfl, fun _ _ _ _ h => (by cases h), fun q hq => absurd hq (by omega)⟩
  | succ j ih =>
    intro hj
    obtain ⟨vs, σj, H, S, h1, h2, h3, h4, h5, hH, hS, h6⟩ := ih (by omega)
    obtain rfl : S = none := by
      cases S with
      | none => rfl
      | some x => have := (hS x.1 x.2.1 x.2.2.1 x.2.2.2 rfl).1; omega
    obtain rfl : σj.hp = H := hH
    have hlt : j < ops.size := by omega
    have hoj : ops[j]? = some ops[j] := Array.getElem?_eq_getElem hlt
    generalize hoo : ops[j] = o at hoj
    have hdrop : ops.toList.drop j = o :: ops.toList.drop (j + 1) := by
      rw [List.drop_eq_getElem_cons (by simpa using hlt)]
      simp [hoo]
    rw [hdrop] at h1
    have htm : σj.tm = tmAt ops nd vs σ.tm (fun q => decide (q < j)) := funext h5
    -- the slots behind the step
    have tmj : ∀ (u : AV) (q : Nat), q ≤ j → tmAt ops nd (upd vs j u) σ.tm (fun x => decide (x < q)) = tmAt ops nd vs σ.tm (fun x => decide (x < q)) := fun u q hq => by
      funext t
      refine tmAt_congr hO fun x o' hx _ _ => ⟨rfl, fun hl => upd_ne _ _ ?_⟩
      have : x < q := by simpa using hl
      omega
    have nxt : ∀ (u : AV) (t : Nat), (σj.put o.dst u).tm t = tmAt ops nd (upd vs j u) σ.tm (fun q => decide (q < j + 1)) t := by
      intro u t
      by_cases hd : o.dst = some t
      · rw [tmAt_hit hO (by omega) (by simp) hoj hd, upd_same, hd]
        exact upd_same _ _ _
      · have e1 : (σj.put o.dst u).tm t = σj.tm t := by
          cases hdd : o.dst with
          | none => rfl
          | some d => exact upd_ne _ _ fun e => hd (by rw [hdd, e])
        rw [e1, h5]
        refine tmAt_congr hO fun x o' hx ho' hd' => ?_
        have hne : x ≠ j := fun e => by subst e; rw [hoj] at ho'; cases ho'; exact hd hd'
        exact ⟨by simp; omega, fun hl => (upd_ne _ _ hne).symm⟩
    have old : ∀ (u : AV) (H : Nat → Option Row1), (∀ x β, σj.hp x = some β → H x = some β) → ∀ q, q < j → StepOk P C ops b (upd vs j u q) (tmAt ops nd (upd vs j u) σ.tm (fun x => decide (x < q))) H q := by
      intro u H hH q hq
      rw [tmj u q (by omega), upd_ne _ _ (by omega)]
      exact (h6 q hq fun _ _ _ _ h => (by cases h)).up hH
    have exec : Want ops σj.tm o → aop P C (decide (j < nd)) (decide (j + 1 = nd)) (b + j) o (aops P C ops nd b (j + 1) (ops.toList.drop (j + 1)) K) σj → ∃ (vs : Nat → AV) (σ' : AS) (H : Nat → Option Row1) (S : Late), aops P C ops nd b (j + 1) (ops.toList.drop (j + 1)) K σ' ∧ σ'.nx = σ.nx ∧ (∀ x, b + (j + 1) ≤ x → σ'.hp x = none) ∧ (∀ x, x < b → H x = σ.hp x) ∧ (∀ t, σ'.tm t = tmAt ops nd vs σ.tm (fun q => decide (q < j + 1)) t) ∧
        σ'.hp = lateHp S H (fun q => decide (q < j + 1)) ∧ (∀ s c β γ, S = some (s, c, β, γ) → j + 1 = nd ∧ s + 1 = nd ∧ StepLate P C ops b (vs s) (tmAt ops nd vs σ.tm (fun x => decide (x < s))) H s c β γ) ∧
        ∀ q, q < j + 1 → (∀ s c β γ, S = some (s, c, β, γ) → q ≠ s) → StepOk P C ops b (vs q) (tmAt ops nd vs σ.tm (fun x => decide (x < q))) H q := by
      intro hw ha
      obtain ⟨u, f, ⟨hq, h7⟩, hwf, h9⟩ := aval_lin (pp := fun c => ∃ x, x ∈ o.op.operands ∧ ∃ j off, σj.ev x = .pt c j off) (fun c j off x h1 h2 => ⟨x, h1, j, off, h2⟩) ha
      have hq' := hq (by simpa using (show j < nd by omega))
      have hdj : decide (j < nd) = true := by simpa using (show j < nd by omega)
      rw [hdj] at h7
      by_cases hqf : f.quiet = true
      · have hqm : (f.md true).quiet = true := by cases f <;> first | rfl | exact hqf
        obtain ⟨a1, a2, a3⟩ := quiet_app hqm (h3 (b + j) (Nat.le_refl _))
        refine ⟨upd vs j u, _, (f.md true).app (b + j) σj.hp, none, h7, by rw [put_nx]; exact h2, fun x hx => ?_, fun x hx => ?_, fun t => ?_, by rw [put_hp]; rfl, fun _ _ _ _ h => (by cases h), fun q hq2 _ => ?_⟩
        · rw [put_hp]; exact (a3 x (by omega)).trans (h3 x (by omega))
        · exact (a3 x (by omega)).trans (h4 x hx)
        · rw [← nxt u t]; cases o.dst <;> rfl
        · rcases Nat.lt_or_ge q j with hlt' | hge
          · exact old u _ a1 q hlt'
          · obtain rfl : q = j := by omega
            rw [tmj u q (Nat.le_refl _), upd_same, ← htm]
            refine ⟨o, hoj, .inl ⟨hw, f, σj.hp, hqf, ?_, a1, fun β e => a2 β e⟩⟩
            rw [← ev_evT]
            exact h9
      cases f with
      | set c γ =>
        obtain ⟨hlast, β, hb1, hb2⟩ := hq'
        have hlast : j + 1 = nd := by simpa using hlast
        have hcx : ∀ x, b + j ≤ x → x ≠ c := fun x hx e => by rw [← e, h3 x hx] at hb1; cases hb1
        refine ⟨upd vs j u, _, σj.hp, some (j, c, β, γ), h7, by rw [put_nx]; exact h2, fun x hx => ?_, h4, fun t => ?_, ?_, fun s c' β' γ' hs => ?_, fun q hq2 hne => ?_⟩
        · rw [put_hp]; exact (upd_ne _ _ (hcx x (by omega))).trans (h3 x (by omega))
        · rw [← nxt u t]; cases o.dst <;> rfl
        · rw [put_hp]
          show upd σj.hp c (some γ) = _
          unfold lateHp
          dsimp only
          rw [if_pos (by simp)]
        · cases hs
          refine ⟨hlast, hlast, o, hoj, ?_, ?_, hb1, hb2, σj.hp, ?_, fun _ _ h => h⟩
          · rw [tmj u j (Nat.le_refl _), ← htm]; exact hw
          · rw [tmj u j (Nat.le_refl _), ← htm, ← ev_evT]; exact hwf.2
          · rw [tmj u j (Nat.le_refl _), upd_same, ← htm, ← ev_evT]; exact h9
        · have hne' := hne j c β γ rfl
          exact old u _ (fun _ _ h => h) q (by omega)
      | none => exact absurd hq' hqf
      | new β => exact absurd hq' hqf
      | grow c β => exact absurd hq' hqf
      | frz bs => exact absurd hq' hqf
      | alc t z => exact absurd hq' hqf
    unfold aops at h1
    split at h1
    · rename_i hg
      exact exec (by unfold Want; rw [hg]; trivial) h1
    · rename_i g want hg
      obtain ⟨d, hb, hcase⟩ : ∃ d, (ops[g]?).bind (·.dst) = some d ∧ ((∃ t, σj.tm d = .ex (.bool t) ∧ t = want ∧ aop P C (decide (j < nd)) (decide (j + 1 = nd)) (b + j) o (aops P C ops nd b (j + 1) (ops.toList.drop (j + 1)) K) σj) ∨
          (((∃ t, σj.tm d = .ex (.bool t) ∧ t ≠ want) ∨ σj.tm d = .und) ∧ aops P C ops nd b (j + 1) (ops.toList.drop (j + 1)) K (σj.put o.dst .und))) := by
        rcases h1 with ⟨t, g1, h1⟩ | ⟨g1, h1⟩
        · cases hb : (ops[g]?).bind (·.dst) with
          | none => rw [hb] at g1; cases g1
          | some d =>
            rw [hb] at g1
            have g2 : σj.tm d = .ex (.bool t) := by simpa using g1
            by_cases ht : t = want
            · rw [if_pos ht] at h1
              exact ⟨d, rfl, .inl ⟨t, g2, ht, h1⟩⟩
            · rw [if_neg ht] at h1
              exact ⟨d, rfl, .inr ⟨.inl ⟨t, g2, ht⟩, h1⟩⟩
        · cases hb : (ops[g]?).bind (·.dst) with
          | none => rw [hb] at g1; cases g1
          | some d =>
            rw [hb] at g1
            exact ⟨d, rfl, .inr ⟨.inr (by simpa using g1), h1⟩⟩
      rcases hcase with ⟨t, g2, ht, h1⟩ | ⟨g2, h1⟩
      · exact exec (by unfold Want; rw [hg]; exact ⟨d, hb, by rw [g2, ht]⟩) h1
      · refine ⟨upd vs j .und, _, σj.hp, none, h1, by rw [put_nx]; exact h2, fun x hx => by rw [put_hp]; exact h3 x (by omega), h4, nxt .und, by rw [put_hp]; rfl, fun _ _ _ _ h => (by cases h), fun q hq2 _ => ?_⟩
        rcases Nat.lt_or_ge q j with hlt' | hge
        · exact old .und _ (fun _ _ h => h) q hlt'
        · obtain rfl : q = j := by omega
          rw [tmj .und q (Nat.le_refl _), upd_same, ← htm]
          exact ⟨o, hoj, .inr ⟨by unfold Unwant; rw [hg]; exact ⟨d, hb, g2⟩, rfl⟩⟩

variable {w0 : Root} {M0 : Nat → Prop} {N : Nat} {Q : Exit → Act → World → Prop}
theorem getD_set_self {l : Array Bool} {i : Nat} (h : i < l.size) : (l.setIfInBounds i true).getD i false = true := by simp [h]
theorem getD_flip {l : Array Bool} {i : Nat} (h : i < l.size) (d e : Bool) : l.getD i d = l.getD i e := by simp [h]
theorem closed_set {l : Array Bool} {i : Nat} {o : Oper} (hl : l.size = ops.size) (hc : Closed ops l) (ho : ops[i]? = some o) (he : ∀ e, e ∈ edgesTo o → l.getD e false = true) : Closed ops (l.setIfInBounds i true) := by
  intro j oj e hj hoj hee
  have hi : i < l.size := by rw [hl]; exact (Array.getElem?_eq_some_iff.1 ho).1
  by_cases hji : i = j
  · subst hji
    rw [ho] at hoj
    cases hoj
    exact getD_set_true (he e hee)
  · rw [getD_set_ne false hji] at hj
    exact getD_set_true (hc j oj e hj hoj hee)
/-- Behind those that may come in another order: one after the other. -/
theorem any_tail (hC : ∀ w w', C w → Below w.heap.size w w' → C w') (hc0 : C w0) (hfit : ∀ o ∈ ops.toList, ∀ t, o.dst = some t → t < N) (hO : Ord ops nd) (hcov : ∀ j i, nd ≤ j → j < ops.size → i < j → Reach ops j i) {σ0 : AS}
    (hk : ∀ σ' a' w', K σ' → SeqSt P M0 N w0 b ops.size σ' a' w' → Fr (ops.toList.filterMap (·.dst)) σ0 σ' → Q .normal a' w') : ∀ (fuel j : Nat) (l : Array Bool) (σ : AS) (a : Act) (w : World), fuel + j = ops.size → nd ≤ j → l.size = ops.size → (∀ i, i < ops.size → l.getD i false = decide (i < j)) →
      aops P C ops nd b j (ops.toList.drop j) K σ → SeqSt P M0 N w0 b j σ a w → Fr (ops.toList.filterMap (·.dst)) σ0 σ → wpAny P .any ops Q fuel l a w
  | 0, j, l, σ, a, w, hf, hj, hl, hll, h, st, hfr => by
    have hdrop : ops.toList.drop j = [] := List.drop_eq_nil_of_le (by simp; omega)
    rw [hdrop] at h
    refine ⟨?_, hk σ a w h (by rwa [show ops.size = j by omega]) hfr⟩
    rw [List.eq_nil_iff_forall_not_mem]
    intro i hi
    obtain ⟨h0, o, ho, _⟩ := ready_iff.1 hi
    have hlt := (Array.getElem?_eq_some_iff.1 ho).1
    have := hll i hlt
    rw [getD_flip (by omega) true false, this] at h0
    simp at h0
    omega
  | fuel + 1, j, l, σ, a, w, hf, hj, hl, hll, h, st, hfr => by
    have hlt : j < ops.size := by omega
    have hoj : ops[j]? = some ops[j] := Array.getElem?_eq_getElem hlt
    generalize hoo : ops[j] = o at hoj
    have hmem : o ∈ ops.toList := by rw [← hoo]; simp
    have hdrop : ops.toList.drop j = o :: ops.toList.drop (j + 1) := by
      rw [List.drop_eq_getElem_cons (by simpa using hlt)]
      simp [hoo]
    have hrd : j ∈ Region.ready .any ops l := ready_iff.2 ⟨by rw [getD_flip (by omega) true false, hll j hlt]; simp, o, hoj, fun e he => by
      have := hO.back j o e hoj he
      rw [hll e (by omega)]; simpa using this⟩
    refine ⟨fun h0 => absurd hrd (by rw [h0]; simp), fun i hi => ?_⟩
    have hij : i = j := by
      obtain ⟨h0, o', ho', hee⟩ := ready_iff.1 hi
      have hlt' := (Array.getElem?_eq_some_iff.1 ho').1
      rw [getD_flip (by omega) true false, hll i hlt'] at h0
      have hge : j ≤ i := by simpa using h0
      rcases Nat.lt_or_ge j i with hlt2 | hge2
      · have hcl : Closed ops l := by
          intro q oq e hq hoq he
          have hqs := (Array.getElem?_eq_some_iff.1 hoq).1
          rw [hll q hqs] at hq
          have := hO.back q oq e hoq he
          rw [hll e (by omega)]
          have : q < j := by simpa using hq
          simp; omega
        have := hcl.reach (hcov i j (by omega) hlt' hlt2) fun o2 e ho2 he => by rw [ho'] at ho2; cases ho2; exact hee e he
        rw [hll j hlt] at this
        simp at this
      · omega
    subst hij
    have hset : ∀ q, q < ops.size → (l.setIfInBounds i true).getD q false = decide (q < i + 1) := by
      intro q hq
      by_cases e : i = q
      · subst e; rw [getD_set_self (by omega)]; simp
      · rw [getD_set_ne false e, hll q hq]
        by_cases hqi : q < i
        · simp [hqi]; omega
        · simp [hqi]; omega
    have hmemd : ∀ t, o.dst = some t → t ∈ ops.toList.filterMap (·.dst) := fun t ht => List.mem_filterMap.2 ⟨o, hmem, ht⟩
    have go : ∀ σ1 a1 w1, aops P C ops nd b (i + 1) (ops.toList.drop (i + 1)) K σ1 → SeqSt P M0 N w0 b (i + 1) σ1 a1 w1 → Fr (ops.toList.filterMap (·.dst)) σ σ1 → wpAny P .any ops Q fuel (l.setIfInBounds i true) a1 w1 := fun σ1 a1 w1 h1 st1 hf1 =>
      any_tail hC hc0 hfit hO hcov hk fuel (i + 1) _ σ1 a1 w1 (by omega) (by omega) (by simpa using hl) hset h1 st1 (hfr.trans hf1)
    rw [hdrop] at h
    unfold aops at h
    unfold wpOp
    rw [hoj]
    dsimp only
    split at h
    · rename_i hg
      rw [if_pos (by simp [Region.wanted, hg])]
      exact .inl (aop_step hC hc0 (hfit o hmem) h st fun σ' a' w' h1 st1 hf => go σ' a' w' h1 st1 (hf _ hmemd))
    · rename_i g want hg
      obtain ⟨⟨φ, st1⟩, st2⟩ := st
      rcases h with ⟨t, h1, h⟩ | ⟨h1, h⟩
      rotate_left
      · cases hb : (ops[g]?).bind (·.dst) with
        | none => rw [hb] at h1; cases h1
        | some d =>
          rw [hb] at h1
          have hy := yielded_und (ops := ops) st1 hb (by simpa using h1)
          rw [if_neg (by simp [Region.wanted, hg, hy])]
          exact go _ _ _ h (skip_step (hfit o hmem) ⟨⟨φ, st1⟩, st2⟩) (put_fr _ _ _ hmemd)
      cases hb : (ops[g]?).bind (·.dst) with
      | none => rw [hb] at h1; cases h1
      | some d =>
        rw [hb] at h1
        have hy := yielded_of (ops := ops) st1 hb (by simpa using h1)
        by_cases ht : t = want
        · rw [if_pos ht] at h
          rw [if_pos (by simp [Region.wanted, hg, hy, ht])]
          exact .inl (aop_step hC hc0 (hfit o hmem) h ⟨⟨φ, st1⟩, st2⟩ fun σ' a' w' h1 st1 hf => go σ' a' w' h1 st1 (hf _ hmemd))
        · rw [if_neg ht] at h
          rw [if_neg (by simp [Region.wanted, hg, hy, ht])]
          exact go _ _ _ h (skip_step (hfit o hmem) ⟨⟨φ, st1⟩, st2⟩) (put_fr _ _ _ hmemd)
end
end Go.Proofs.YtaphbajfjmhpnaaDoor
