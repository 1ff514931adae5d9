/-
  How values without memory stand to a frame and a world, and how that relation goes through a store, a new row, an append, a call. Conditions: those that each theorem states.
-/
import Derived.Test.YtaphbajfjmhpnaaDoorAbs2
namespace Go.Proofs.YtaphbajfjmhpnaaDoor
open Go.RowKit
set_option maxRecDepth 100000

/-- The blocks that may still be written: those that the caller's caller may write, and the rows of the call's own. -/
def Mo (φ : Phi) (hp : Nat → Option Row1) (M0 : Nat → Prop) (b : Nat) : Prop := M0 b ∨ ∃ i β v, hp i = some β ∧ β.mu = true ∧ φ i = some v ∧ v.1.ownBlock = some b

/-- The world from which a call's own rows are counted; blocks that must stay as they were in the world where the call began. -/
structure Root extends World where
  J : Nat → Prop
  wE : World
instance : Coe Root World := ⟨Root.toWorld⟩

structure St (P : Program) (M0 : Nat → Prop) (N : Nat) (w0 : Root) (F : Nat → Prop) (φ : Phi) (σ : AS) (a : Act) (w : World) : Prop where
  below : Below w0.heap.size w0 w
  defers : a.defers = []
  size : a.tmps.size = N
  tmr : ∀ t, Rep φ (Mo φ σ.hp M0) w (σ.tm t) (a.tmps.getD t undef)
  hpr : ∀ i β v, σ.hp i = some β → φ i = some v → v.2 = (aty P β.ty).sz ∧ ∃ xs, w.ownsRow w0.heap.size β.ty v.2 v.1 β.es.length xs ∧ RepLL φ (Mo φ σ.hp M0) w v.2 β.es xs
  inj : ∀ i j β γ u v b, σ.hp i = some β → σ.hp j = some γ → φ i = some u → φ j = some v → u.1.ownBlock = some b → v.1.ownBlock = some b → i = j
  fresh : ∀ i, F i → φ i = none
  m0 : ∀ b, M0 b → b < w0.heap.size ∨ w0.J b
  ones : ∀ i v, φ i = some v → v.1.oneCell' = true
  jk : ∀ b, w0.J b → b < w.heap.size ∧ w.heap[b]? = w0.wE.heap[b]?
  jo : ∀ i β v b, σ.hp i = some β → φ i = some v → v.1.ownBlock = some b → ¬ w0.J b
  js : w0.wE.heap.size ≤ w.heap.size

section
variable {P : Program} {M0 : Nat → Prop} {N : Nat} {w0 : Root} {F : Nat → Prop} {φ : Phi} {σ : AS} {a : Act} {w : World}

theorem put_get (a : Act) (d t : Tmp) (v : Value) (hd : d < a.tmps.size) : (a.put (some d) v).tmps.getD t undef = if t = d then v else a.tmps.getD t undef := by
  simp only [Act.put, Array.getD_eq_getD_getElem?, Array.getElem?_setIfInBounds]
  split
  · rename_i h
    subst h
    simp
  · rename_i h
    rw [if_neg (fun e => h e.symm)]
theorem St.put (h : St P M0 N w0 F φ σ a w) {u : AV} {v : Value} (hu : Rep φ (Mo φ σ.hp M0) w u v) (d : Option Tmp) (hd : ∀ t, d = some t → t < N) : St P M0 N w0 F φ (σ.put d u) (a.put d v) w := by
  cases d with
  | none => exact h
  | some d =>
    have hd' : d < a.tmps.size := by rw [h.size]; exact hd d rfl
    refine ⟨h.below, h.defers, by simp [Act.put, h.size], fun t => ?_, h.hpr, h.inj, h.fresh, h.m0, h.ones, h.jk, h.jo, h.js⟩
    rw [put_get a d t v hd']
    simp only [AS.put, upd]
    split
    · exact hu
    · exact h.tmr t
theorem St.putJ (h : St P M0 N w0 F φ σ a w) (v : Value) (d : Option Tmp) (hd : ∀ t, d = some t → t < N) : St P M0 N w0 F φ (σ.put d .junk) (a.put d v) w :=
  h.put (by simp only [Rep]) d hd
theorem St.putU (h : St P M0 N w0 F φ σ a w) (d : Option Tmp) (hd : ∀ t, d = some t → t < N) : St P M0 N w0 F φ (σ.put d .und) (a.put d undef) w :=
  h.put (by simp only [Rep]) d hd
theorem St.sub (h : St P M0 N w0 F φ σ a w) {F' : Nat → Prop} (hF : ∀ i, F' i → F i) : St P M0 N w0 F' φ σ a w := { h with fresh := fun i hi => h.fresh i (hF i hi) }

theorem ofV_rep (φ : Phi) (M : Nat → Prop) (w : World) (v : Value) : Rep φ M w (ofV v) v := by
  cases v with
  | agg cs =>
    simp only [ofV]
    split
    · rename_i h
      simp only [Rep]
      refine ⟨cs.toList, by simp, fun u hu => by simpa using (Array.all_eq_true_iff_forall_mem.1 h u (by simpa using hu)), ?_⟩
      have hall : ∀ u ∈ cs.toList, u.oneCell' = true := fun u hu => by simpa using (Array.all_eq_true_iff_forall_mem.1 h u (by simpa using hu))
      generalize cs.toList = l at hall
      induction l with
      | nil => exact RepL.nil
      | cons x l ih => exact RepL.cons (by simpa [Rep] using hall x (by simp)) (ih fun u hu => hall u (by simp [hu]))
    · simp only [Rep]
  | tuple _ => simp only [ofV, Rep]
  | _ => simp only [ofV, Rep]; exact ⟨trivial, rfl⟩
theorem St.evr (h : St P M0 N w0 F φ σ a w) (x : Operand) : Rep φ (Mo φ σ.hp M0) w (σ.ev x) (a.eval x) := by
  cases x with
  | tmp t => exact h.tmr t
  | const v => exact ofV_rep _ _ _ v
  | global g => simp only [AS.ev, Act.eval, Rep]; exact ⟨trivial, rfl⟩
  | func f => simp only [AS.ev, Act.eval, Rep]; exact ⟨trivial, rfl⟩

theorem keep_below {w w' : World} (hb : Below w.heap.size w w') (M : Nat → Prop) : Keep M M w w' := fun b hlt hM => ⟨hM, Nat.lt_of_lt_of_le hlt hb.size, hb.block b hlt⟩
theorem own_lt {base e sz n : Nat} {v : Value} {xs : List Value} (h : w.ownsRow base e sz v n xs) {b : Nat} (hb : v.ownBlock = some b) : base ≤ b ∧ b < w.heap.size := h.lt b hb
theorem own_keep {w w' : World} {base e sz n : Nat} {v : Value} {xs : List Value} (h : w.ownsRow base e sz v n xs) (hk : ∀ b, v.ownBlock = some b → w'.heap[b]? = w.heap[b]?) : w'.ownsRow base e sz v n xs := by
  refine ⟨h.1, ?_⟩
  rcases h.2 with h2 | ⟨g, cap, cur, hv, hg, hh, r⟩
  · exact .inl h2
  · exact .inr ⟨g, cap, cur, hv, hg, by rw [hk g (by rw [hv]; rfl)]; exact hh, r⟩

/-- The world goes on, the rows of the call's own as they were. -/
theorem St.on (h : St P M0 N w0 F φ σ a w) {w' : World} (hb : Below w.heap.size w w') : St P M0 N w0 F φ σ a w' := by
  have hk := keep_below hb (Mo φ σ.hp M0)
  refine ⟨Below.thenB (Nat.le_refl _) h.below hb, h.defers, h.size, fun t => Rep.keep hk (Ext.refl φ) _ _ (h.tmr t), fun i β v h1 h2 => ?_, h.inj, h.fresh, h.m0, h.ones, fun b hb' => ⟨Nat.lt_of_lt_of_le (h.jk b hb').1 hb.size, (hb.block b (h.jk b hb').1).trans (h.jk b hb').2⟩, h.jo, Nat.le_trans h.js hb.size⟩
  obtain ⟨h3, xs, h4, h5⟩ := h.hpr i β v h1 h2
  exact ⟨h3, xs, own_keep h4 fun b hv => hb.block b (own_lt h4 hv).2, RepLL.keep hk (Ext.refl φ) _ _ _ h5⟩

/-- A new row of the call's own, under a new name. -/
theorem St.new (h : St P M0 N w0 F φ σ a w) {id : Nat} (hF : F id) {w' : World} (hg : w.grownBy w' none) {ty sz : Nat} {es : List (List AV)} {v : Value} {xs : List Value}
    (hown : w'.ownsRow w0.heap.size ty sz v es.length xs) (hk : ∀ k, v.ownBlock = some k → w.heap.size ≤ k) (hv : v.oneCell' = true)
    (hrep : RepLL φ (fun b => Mo φ σ.hp M0 b ∨ v.ownBlock = some b) w' sz es xs) (hsz : sz = (aty P ty).sz) :
    ∃ φ', Ext φ φ' ∧ φ' id = some (v, sz) ∧ St P M0 N w0 (fun i => F i ∧ i ≠ id) φ' { σ with hp := upd σ.hp id (some ⟨ty, es, true⟩) } a w' := by
  have hid := h.fresh id hF
  have hext : Ext φ (upd φ id (some (v, sz))) := fun i x hi => by
    rw [upd_ne]
    · exact hi
    · intro e; subst e; rw [hid] at hi; cases hi
  have hB : w0.heap.size ≤ w.heap.size := h.below.size
  have hbl : Below w.heap.size w w' := ⟨hg.os, hg.tape, hg.output, hg.size, fun k hk' => hg.block k hk' (by simp)⟩
  have hM : Keep (Mo φ σ.hp M0) (Mo (upd φ id (some (v, sz))) (upd σ.hp id (some ⟨ty, es, true⟩)) M0) w w' := by
    intro b hlt hnb
    refine ⟨?_, Nat.lt_of_lt_of_le hlt hg.size, hbl.block b hlt⟩
    rintro (h0 | ⟨i, β, x, h1, h2, h3, h4⟩)
    · exact hnb (.inl h0)
    · by_cases e : i = id
      · subst e
        rw [upd_same] at h3
        cases h3
        exact absurd (hk b h4) (by omega)
      · rw [upd_ne _ _ e] at h1 h3
        exact hnb (.inr ⟨i, β, x, h1, h2, h3, h4⟩)
  have hM2 : Keep (fun b => Mo φ σ.hp M0 b ∨ v.ownBlock = some b) (Mo (upd φ id (some (v, sz))) (upd σ.hp id (some ⟨ty, es, true⟩)) M0) w' w' := by
    intro b hlt hnb
    refine ⟨?_, hlt, rfl⟩
    rintro (h0 | ⟨i, β, x, h1, h2, h3, h4⟩)
    · exact hnb (.inl (.inl h0))
    · by_cases e : i = id
      · subst e
        rw [upd_same] at h3
        cases h3
        exact hnb (.inr h4)
      · rw [upd_ne _ _ e] at h1 h3
        exact hnb (.inl (.inr ⟨i, β, x, h1, h2, h3, h4⟩))
  refine ⟨upd φ id (some (v, sz)), hext, upd_same _ _ _, Below.thenB (Nat.le_refl _) h.below hbl, h.defers, h.size, fun t => Rep.keep hM hext _ _ (h.tmr t), ?_, ?_, ?_, h.m0, ?_, fun b hb' => ⟨Nat.lt_of_lt_of_le (h.jk b hb').1 hg.size, (hbl.block b (h.jk b hb').1).trans (h.jk b hb').2⟩, ?_, Nat.le_trans h.js hg.size⟩
  · intro i β x h1 h2
    by_cases e : i = id
    · subst e
      dsimp only at h1
      rw [upd_same] at h1 h2
      cases h1
      cases h2
      exact ⟨hsz, xs, hown, RepLL.keep hM2 hext _ _ _ hrep⟩
    · dsimp only at h1
      rw [upd_ne _ _ e] at h1 h2
      obtain ⟨h3, ys, h4, h5⟩ := h.hpr i β x h1 h2
      exact ⟨h3, ys, own_keep h4 fun b hv => hbl.block b (own_lt h4 hv).2, RepLL.keep hM hext _ _ _ h5⟩
  · intro i j β γ u x b h1 h2 h3 h4 h5 h6
    dsimp only at h1 h2
    by_cases e : i = id
    · by_cases e' : j = id
      · rw [e, e']
      · subst e
        rw [upd_same] at h1 h3
        rw [upd_ne _ _ e'] at h2 h4
        cases h3
        obtain ⟨_, ys, q, _⟩ := h.hpr j γ x h2 h4
        exact absurd (hk b h5) (by have := (own_lt q h6).2; omega)
    · rw [upd_ne _ _ e] at h1 h3
      by_cases e' : j = id
      · subst e'
        rw [upd_same] at h2 h4
        cases h4
        obtain ⟨_, ys, q, _⟩ := h.hpr i β u h1 h3
        exact absurd (hk b h6) (by have := (own_lt q h5).2; omega)
      · rw [upd_ne _ _ e'] at h2 h4
        exact h.inj i j β γ u x b h1 h2 h3 h4 h5 h6
  · rintro i ⟨hi, hne⟩
    rw [upd_ne _ _ hne]
    exact h.fresh i hi
  · intro i x hi
    by_cases e : i = id
    · subst e
      rw [upd_same] at hi
      cases hi
      exact hv
    · rw [upd_ne _ _ e] at hi
      exact h.ones i x hi
  · intro i β x c h1 h2 h3 h4
    by_cases e : i = id
    · subst e
      rw [upd_same] at h2
      cases h2
      exact absurd (hk c h3) (by have := (h.jk c h4).1; omega)
    · dsimp only at h1
      rw [upd_ne _ _ e] at h1 h2
      exact h.jo i β x c h1 h2 h3 h4

/-- A row of the call's own is written in place. -/
theorem St.set (h : St P M0 N w0 F φ σ a w) {b : Nat} {β : Row1} {v : Value × Nat} (hb : σ.hp b = some β) (hmu : β.mu = true) (hφ : φ b = some v) {w' : World} (hg : w.grownBy w' v.1.ownBlock)
    {es : List (List AV)} {xs : List Value} (hown : w'.ownsRow w0.heap.size β.ty v.2 v.1 es.length xs) (hrep : RepLL φ (Mo φ σ.hp M0) w v.2 es xs) :
    St P M0 N w0 F φ { σ with hp := upd σ.hp b (some ⟨β.ty, es, true⟩) } a w' := by
  obtain ⟨hsz, ys, ho, _⟩ := h.hpr b β v hb hφ
  have hB : w0.heap.size ≤ w.heap.size := h.below.size
  have hbl : Below w0.heap.size w w' := ⟨hg.os, hg.tape, hg.output, hg.size, fun k hk' => hg.block k (by omega) fun e => by have := (own_lt ho e.symm).1; omega⟩
  have hM : Keep (Mo φ σ.hp M0) (Mo φ (upd σ.hp b (some ⟨β.ty, es, true⟩)) M0) w w' := by
    intro c hlt hnb
    refine ⟨?_, Nat.lt_of_lt_of_le hlt hg.size, hg.block c hlt fun e => hnb (.inr ⟨b, β, v, hb, hmu, hφ, e.symm⟩)⟩
    rintro (h0 | ⟨i, γ, x, h1, h2, h3, h4⟩)
    · exact hnb (.inl h0)
    · by_cases e : i = b
      · subst e
        rw [hφ] at h3
        cases h3
        exact hnb (.inr ⟨i, β, v, hb, hmu, hφ, h4⟩)
      · rw [upd_ne _ _ e] at h1
        exact hnb (.inr ⟨i, γ, x, h1, h2, h3, h4⟩)
  refine ⟨h.below.trans hbl, h.defers, h.size, fun t => Rep.keep hM (Ext.refl φ) _ _ (h.tmr t), ?_, ?_, h.fresh, h.m0, h.ones, fun c hc => ⟨Nat.lt_of_lt_of_le (h.jk c hc).1 hg.size, (hg.block c (h.jk c hc).1 fun e => h.jo b β v c hb hφ e.symm hc).trans (h.jk c hc).2⟩, ?_, Nat.le_trans h.js hg.size⟩
  case refine_3 =>
    intro i γ x c h1 h2 h3 h4
    dsimp only at h1
    by_cases e : i = b
    · subst e
      rw [hφ] at h2
      cases h2
      exact h.jo i β v c hb hφ h3 h4
    · rw [upd_ne _ _ e] at h1
      exact h.jo i γ x c h1 h2 h3 h4
  · intro i γ x h1 h2
    by_cases e : i = b
    · subst e
      dsimp only at h1
      rw [upd_same] at h1
      cases h1
      rw [hφ] at h2
      cases h2
      exact ⟨hsz, xs, hown, RepLL.keep hM (Ext.refl φ) _ _ _ hrep⟩
    · dsimp only at h1
      rw [upd_ne _ _ e] at h1
      obtain ⟨h3, zs, h4, h5⟩ := h.hpr i γ x h1 h2
      refine ⟨h3, zs, own_keep h4 fun c hv => hg.block c (own_lt h4 hv).2 fun e' => e ?_, RepLL.keep hM (Ext.refl φ) _ _ _ h5⟩
      exact h.inj i b γ β x v c h1 hb h2 hφ hv e'.symm
  · intro i j γ δ u x c h1 h2 h3 h4 h5 h6
    dsimp only at h1 h2
    have fix : ∀ k γ, upd σ.hp b (some ⟨β.ty, es, true⟩) k = some γ → ∃ γ', σ.hp k = some γ' := by
      intro k γ hk
      by_cases e : k = b
      · exact ⟨β, by rw [e]; exact hb⟩
      · rw [upd_ne _ _ e] at hk; exact ⟨γ, hk⟩
    obtain ⟨γ', k1⟩ := fix i γ h1
    obtain ⟨δ', k2⟩ := fix j δ h2
    exact h.inj i j γ' δ' u x c k1 k2 h3 h4 h5 h6

/-- A row of the call's own is appended to: the old name goes, a new one stands. -/
theorem St.grow (h : St P M0 N w0 F φ σ a w) {b id : Nat} {β : Row1} {v : Value × Nat} (hb : σ.hp b = some β) (hmu : β.mu = true) (hφ : φ b = some v) (hF : F id) {w' : World} (hg : w.grownBy w' v.1.ownBlock)
    {es : List (List AV)} {xs : List Value} {v' : Value} (hown : w'.ownsRow w0.heap.size β.ty v.2 v' es.length xs) (hk : ∀ k, v'.ownBlock = some k → v.1.ownBlock = some k ∨ w.heap.size ≤ k) (hv : v'.oneCell' = true)
    (hrep : RepLL φ (Mo φ σ.hp M0) w v.2 es xs) :
    ∃ φ', Ext φ φ' ∧ φ' id = some (v', v.2) ∧ St P M0 N w0 (fun i => F i ∧ i ≠ id) φ' { σ with hp := upd (upd σ.hp b none) id (some ⟨β.ty, es, true⟩) } a w' := by
  have hid := h.fresh id hF
  have hne : b ≠ id := fun e => by rw [e, hid] at hφ; cases hφ
  have hext : Ext φ (upd φ id (some (v', v.2))) := fun i x hi => by
    rw [upd_ne]
    · exact hi
    · intro e; subst e; rw [hid] at hi; cases hi
  obtain ⟨hsz, ys, ho, _⟩ := h.hpr b β v hb hφ
  have hB : w0.heap.size ≤ w.heap.size := h.below.size
  have hbl : Below w0.heap.size w w' := ⟨hg.os, hg.tape, hg.output, hg.size, fun k hk' => hg.block k (by omega) fun e => by have := (own_lt ho e.symm).1; omega⟩
  have hM : Keep (Mo φ σ.hp M0) (Mo (upd φ id (some (v', v.2))) (upd (upd σ.hp b none) id (some ⟨β.ty, es, true⟩)) M0) w w' := by
    intro c hlt hnb
    refine ⟨?_, Nat.lt_of_lt_of_le hlt hg.size, hg.block c hlt fun e => hnb (.inr ⟨b, β, v, hb, hmu, hφ, e.symm⟩)⟩
    rintro (h0 | ⟨i, γ, x, h1, h2, h3, h4⟩)
    · exact hnb (.inl h0)
    · by_cases e : i = id
      · subst e
        rw [upd_same] at h3
        cases h3
        rcases hk c h4 with q | q
        · exact hnb (.inr ⟨b, β, v, hb, hmu, hφ, q⟩)
        · omega
      · rw [upd_ne _ _ e] at h1 h3
        by_cases e' : i = b
        · subst e'; rw [upd_same] at h1; cases h1
        · rw [upd_ne _ _ e'] at h1
          exact hnb (.inr ⟨i, γ, x, h1, h2, h3, h4⟩)
  have old : ∀ i γ x, i ≠ id → upd (upd σ.hp b none) id (some ⟨β.ty, es, true⟩) i = some γ → upd φ id (some (v', v.2)) i = some x → σ.hp i = some γ ∧ φ i = some x ∧ i ≠ b := by
    intro i γ x e h1 h2
    rw [upd_ne _ _ e] at h1 h2
    by_cases e' : i = b
    · subst e'; rw [upd_same] at h1; cases h1
    · rw [upd_ne _ _ e'] at h1
      exact ⟨h1, h2, e'⟩
  refine ⟨upd φ id (some (v', v.2)), hext, upd_same _ _ _, h.below.trans hbl, h.defers, h.size, fun t => Rep.keep hM hext _ _ (h.tmr t), ?_, ?_, ?_, h.m0, ?_, fun c hc => ⟨Nat.lt_of_lt_of_le (h.jk c hc).1 hg.size, (hg.block c (h.jk c hc).1 fun e => h.jo b β v c hb hφ e.symm hc).trans (h.jk c hc).2⟩, ?_, Nat.le_trans h.js hg.size⟩
  · intro i γ x h1 h2
    by_cases e : i = id
    · subst e
      dsimp only at h1
      rw [upd_same] at h1 h2
      cases h1
      cases h2
      exact ⟨hsz, xs, hown, RepLL.keep hM hext _ _ _ hrep⟩
    · obtain ⟨k1, k2, k3⟩ := old i γ x e h1 h2
      obtain ⟨h3, zs, h4, h5⟩ := h.hpr i γ x k1 k2
      refine ⟨h3, zs, own_keep h4 fun c hv => hg.block c (own_lt h4 hv).2 fun e' => k3 ?_, RepLL.keep hM hext _ _ _ h5⟩
      exact h.inj i b γ β x v c k1 hb k2 hφ hv e'.symm
  · intro i j γ δ u x c h1 h2 h3 h4 h5 h6
    have clash : ∀ j δ x, j ≠ id → upd (upd σ.hp b none) id (some ⟨β.ty, es, true⟩) j = some δ → upd φ id (some (v', v.2)) j = some x → x.1.ownBlock = some c → v'.ownBlock = some c → False := by
      intro j δ x e q1 q2 q3 q4
      obtain ⟨k1, k2, k3⟩ := old j δ x e q1 q2
      obtain ⟨_, zs, p, _⟩ := h.hpr j δ x k1 k2
      rcases hk c q4 with r | r
      · exact k3 (h.inj j b δ β x v c k1 hb k2 hφ q3 r)
      · have := (own_lt p q3).2; omega
    by_cases e : i = id
    · by_cases e' : j = id
      · rw [e, e']
      · subst e
        rw [upd_same] at h3
        cases h3
        exact (clash j δ x e' h2 h4 h6 h5).elim
    · by_cases e' : j = id
      · subst e'
        rw [upd_same] at h4
        cases h4
        exact (clash i γ u e h1 h3 h5 h6).elim
      · obtain ⟨k1, k2, _⟩ := old i γ u e h1 h3
        obtain ⟨k3, k4, _⟩ := old j δ x e' h2 h4
        exact h.inj i j γ δ u x c k1 k3 k2 k4 h5 h6
  · rintro i ⟨hi, hne⟩
    rw [upd_ne _ _ hne]
    exact h.fresh i hi
  · intro i x hi
    by_cases e : i = id
    · subst e
      rw [upd_same] at hi
      cases hi
      exact hv
    · rw [upd_ne _ _ e] at hi
      exact h.ones i x hi
  · intro i γ x c h1 h2 h3 h4
    by_cases e : i = id
    · subst e
      rw [upd_same] at h2
      cases h2
      rcases hk c h3 with q | q
      · exact h.jo b β v c hb hφ q h4
      · have := (h.jk c h4).1
        omega
    · obtain ⟨k1, k2, _⟩ := old i γ x e h1 h2
      exact h.jo i γ x c k1 k2 h3 h4

/-- Rows of the call's own are written no more. -/
theorem St.frz (h : St P M0 N w0 F φ σ a w) (bs : List Nat) : St P M0 N w0 F φ { σ with hp := (Eff.frz bs).app 0 σ.hp } a w := by
  have fix : ∀ i γ, (Eff.frz bs).app 0 σ.hp i = some γ → ∃ β, σ.hp i = some β ∧ γ.ty = β.ty ∧ γ.es = β.es ∧ (γ.mu = true → β.mu = true) := by
    intro i γ hi
    simp only [Eff.app] at hi
    split at hi
    · cases hh : σ.hp i with
      | none => rw [hh] at hi; cases hi
      | some β => rw [hh] at hi; cases hi; exact ⟨β, rfl, rfl, rfl, fun e => by cases e⟩
    · exact ⟨γ, hi, rfl, rfl, id⟩
  have hM : Keep (Mo φ σ.hp M0) (Mo φ ((Eff.frz bs).app 0 σ.hp) M0) w w := by
    intro c hlt hnb
    refine ⟨?_, hlt, rfl⟩
    rintro (h0 | ⟨i, γ, x, h1, h2, h3, h4⟩)
    · exact hnb (.inl h0)
    · obtain ⟨β, k1, _, _, k4⟩ := fix i γ h1
      exact hnb (.inr ⟨i, β, x, k1, k4 h2, h3, h4⟩)
  refine ⟨h.below, h.defers, h.size, fun t => Rep.keep hM (Ext.refl φ) _ _ (h.tmr t), ?_, ?_, h.fresh, h.m0, h.ones, h.jk, fun i γ x c h1 h2 h3 => ?_, h.js⟩
  case refine_3 =>
    obtain ⟨β, k1, _⟩ := fix i γ h1
    exact h.jo i β x c k1 h2 h3
  · intro i γ x h1 h2
    obtain ⟨β, k1, k2, k3, _⟩ := fix i γ h1
    obtain ⟨h3, zs, h4, h5⟩ := h.hpr i β x k1 h2
    rw [k2, k3]
    exact ⟨h3, zs, h4, RepLL.keep hM (Ext.refl φ) _ _ _ h5⟩
  · intro i j γ δ u x c h1 h2 h3 h4 h5 h6
    obtain ⟨β, k1, _⟩ := fix i γ h1
    obtain ⟨β', k2, _⟩ := fix j δ h2
    exact h.inj i j β β' u x c k1 k2 h3 h4 h5 h6

/-! Less known. -/
theorem wkL_rep {φ : Phi} {M : Nat → Prop} {w : World} : ∀ {us vs : List AV} {xs : List Value}, wkL us vs → RepL φ M w vs xs → RepL φ M w us xs
  | [], [], _, _, h => h
  | [], _ :: _, _, hw, _ => hw.elim
  | _ :: _, [], _, hw, _ => hw.elim
  | u :: us, v :: vs, _, hw, h => by
    simp only [RepL] at h
    obtain ⟨x, xs', rfl, h2, h3⟩ := h
    obtain ⟨h4, h5⟩ := hw
    refine RepL.cons ?_ (wkL_rep h5 h3)
    rcases h4 with rfl | rfl
    · simp only [Rep]
    · exact h2
theorem wkLL_rep {φ : Phi} {M : Nat → Prop} {w : World} {sz : Nat} : ∀ {us vs : List (List AV)} {xs : List Value}, wkLL us vs → RepLL φ M w sz vs xs → RepLL φ M w sz us xs
  | [], [], _, _, h => h
  | [], _ :: _, _, hw, _ => hw.elim
  | _ :: _, [], _, hw, _ => hw.elim
  | u :: us, v :: vs, _, hw, h => by
    simp only [RepLL] at h
    obtain ⟨x, y, rfl, h2, h3, h4, h5⟩ := h
    exact RepLL.cons h2 h3 (wkL_rep hw.1 h4) (wkLL_rep hw.2 h5)
theorem wkLL_len : ∀ {us vs : List (List AV)}, wkLL us vs → us.length = vs.length
  | [], [], _ => rfl
  | [], _ :: _, hw => hw.elim
  | _ :: _, [], hw => hw.elim
  | _ :: us, _ :: vs, hw => by rw [List.length_cons, List.length_cons, wkLL_len hw.2]
theorem wkL_refl : ∀ (us : List AV), wkL us us
  | [] => trivial
  | _ :: us => ⟨.inr rfl, wkL_refl us⟩
theorem wkLL_refl : ∀ (us : List (List AV)), wkLL us us
  | [] => trivial
  | u :: us => ⟨wkL_refl u, wkLL_refl us⟩
theorem wkR_refl (β : Row1) : wkR β β := ⟨rfl, rfl, wkLL_refl _⟩
theorem blank_wk : ∀ (z : List AV), wkL (blank z) z
  | [] => trivial
  | _ :: z => ⟨.inl rfl, blank_wk z⟩
theorem St.weak (h : St P M0 N w0 F φ σ a w) {b : Nat} {β γ : Row1} (hb : σ.hp b = some γ) (hw : wkR β γ) : St P M0 N w0 F φ { σ with hp := upd σ.hp b (some β) } a w := by
  obtain ⟨w1, w2, w3⟩ := hw
  have fix : ∀ i δ, upd σ.hp b (some β) i = some δ → ∃ ε, σ.hp i = some ε ∧ δ.ty = ε.ty ∧ δ.mu = ε.mu ∧ wkLL δ.es ε.es := by
    intro i δ hi
    by_cases e : i = b
    · subst e
      rw [upd_same] at hi
      cases hi
      exact ⟨γ, hb, w1, w2, w3⟩
    · rw [upd_ne _ _ e] at hi
      exact ⟨δ, hi, rfl, rfl, wkLL_refl _⟩
  have back : ∀ i ε, σ.hp i = some ε → ∃ δ, upd σ.hp b (some β) i = some δ ∧ δ.mu = ε.mu := by
    intro i ε hi
    by_cases e : i = b
    · subst e
      rw [hb] at hi
      cases hi
      exact ⟨β, upd_same _ _ _, w2⟩
    · exact ⟨ε, (upd_ne _ _ e).trans hi, rfl⟩
  have hM : Mo φ (upd σ.hp b (some β)) M0 = Mo φ σ.hp M0 := by
    funext c
    apply propext
    unfold Mo
    refine or_congr Iff.rfl ⟨?_, ?_⟩
    · rintro ⟨i, δ, v, h1, h2, h3, h4⟩
      obtain ⟨ε, k1, _, k2, _⟩ := fix i δ h1
      exact ⟨i, ε, v, k1, k2 ▸ h2, h3, h4⟩
    · rintro ⟨i, δ, v, h1, h2, h3, h4⟩
      obtain ⟨ε, k1, k2⟩ := back i δ h1
      exact ⟨i, ε, v, k1, k2.trans h2, h3, h4⟩
  refine ⟨h.below, h.defers, h.size, fun t => ?_, ?_, ?_, h.fresh, h.m0, h.ones, h.jk, fun i δ x c h1 h2 h3 => ?_, h.js⟩
  · show Rep φ (Mo φ (upd σ.hp b (some β)) M0) w _ _
    rw [hM]; exact h.tmr t
  · intro i δ x h1 h2
    obtain ⟨ε, k1, k2, _, k3⟩ := fix i δ h1
    obtain ⟨h3, zs, h4, h5⟩ := h.hpr i ε x k1 h2
    show _ ∧ ∃ xs, _ ∧ RepLL φ (Mo φ (upd σ.hp b (some β)) M0) w _ _ _
    rw [hM, k2, wkLL_len k3]
    exact ⟨h3, zs, h4, wkLL_rep k3 h5⟩
  · intro i j δ ε u x c h1 h2 h3 h4 h5 h6
    obtain ⟨δ', k1, _⟩ := fix i δ h1
    obtain ⟨ε', k2, _⟩ := fix j ε h2
    exact h.inj i j δ' ε' u x c k1 k2 h3 h4 h5 h6
  · obtain ⟨ε, k1, _⟩ := fix i δ h1
    exact h.jo i ε x c k1 h2 h3
end
end Go.Proofs.YtaphbajfjmhpnaaDoor
