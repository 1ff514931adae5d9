/-
  Each operation of the machine does what 'aval' says of it: slices of slices, calls; and all operations together. Conditions: those that each theorem states.
-/
import Derived.Test.YtaphbajfjmhpnaaDoorAbs8
import Derived.Deep.LoopGhost
namespace Go.Proofs.YtaphbajfjmhpnaaDoor
open Go.RowKit
set_option maxRecDepth 100000

section
variable {P : Program} {C : World → Prop} {w : World} {M0 : Nat → Prop} {N : Nat} {w0 : Root} {F : Nat → Prop} {φ : Phi} {σ : AS} {a : Act} {hp : Nat → Option Row1} {id : Nat} {o : Oper} {k : AV → Eff → Prop} {K : Act → World → Prop} {Q : Exit → Act → World → Prop}

theorem bnd_run {M : Nat → Prop} {ev : Operand → AV} {x : Option Operand} {d : Nat} {kk : Nat → Prop} (hx : ∀ y, x = some y → Rep φ M w (ev y) (a.eval y)) (h : bnd d ev x kk) :
    ∃ l, kk l ∧ ((x = none ∧ l = d) ∨ ∃ y kd n, x = some y ∧ a.eval y = .int kd n ∧ 0 ≤ n ∧ n.toNat = l) := by
  cases x with
  | none => exact ⟨d, h, .inl ⟨rfl, rfl⟩⟩
  | some y =>
    obtain ⟨kd, n, h1, h2, h3⟩ := h
    exact ⟨n.toNat, h3, .inr ⟨y, kd, n, rfl, rep_int (hx y rfl) h1, h2, rfl⟩⟩
theorem run_bound {kd : IntKind} {n : Int} {y : Nat} {code : BoundsCode} (h0 : 0 ≤ n) (h : n.toNat ≤ y) : (Instr.sliceBound (.int kd n) y code).run P w = .ok n.toNat w := by
  have : n ≤ (y : Int) := by omega
  simp [Instr.sliceBound, asIntOf, h0, this]

theorem slice_sound (b : Begin P M0 N w0 F φ σ a w hp id o) (he : Ends P M0 N w0 F σ id o k K) {t : Nat} {x : Operand} {lo hi mx : Option Operand} (ho : o.op = .slice t x lo hi mx) {ev : Operand → AV} {u : AV}
    (hx : Rep φ (Mo φ σ.hp M0) w u (a.eval x)) (hlo : ∀ y, lo = some y → Rep φ (Mo φ σ.hp M0) w (ev y) (a.eval y)) (hhi : ∀ y, hi = some y → Rep φ (Mo φ σ.hp M0) w (ev y) (a.eval y)) (hmx : ∀ y, mx = some y → Rep φ (Mo φ σ.hp M0) w (ev y) (a.eval y))
    (hk : opSlice P t u ev lo hi mx k) : o.wp P a w K Q := by
  have hrun : ∀ r, (Instr.sliceAt t (a.eval x) (lo.map a.eval) (hi.map a.eval) (mx.map a.eval)).run P w = .ok r w → (execOp a.eval o).run P w = .ok (.value r) w := by
    intro r hr
    simp [execOp, ho, hr]
  unfold opSlice at hk
  split at hk
  · rename_i s hkk
    obtain ⟨rfl, hk⟩ := hk
    have e1 := rep_ex hx rfl
    obtain ⟨l, hk, h1⟩ := bnd_run hlo hk
    obtain ⟨h, ⟨h2, h3, hk⟩, h4⟩ := bnd_run hhi hk
    refine end_pure b he hk (ex_rep _ rfl) (hrun _ ?_)
    rw [e1]
    rcases h1 with ⟨rfl, rfl⟩ | ⟨y, kd, n, rfl, q1, q2, rfl⟩ <;> rcases h4 with ⟨rfl, rfl⟩ | ⟨y', kd', n', rfl, r1, r2, rfl⟩ <;>
      simp [Instr.sliceAt, Instr.slice, run_underlying (aty_str hkk), Instr.sliceBounds, *, run_bound]
  · rename_i e es hkk
    obtain ⟨⟨hpos, hmh, hall⟩, hk⟩ := hk
    obtain ⟨l, hk, h1⟩ := bnd_run hlo hk
    obtain ⟨h, hk, h2⟩ := bnd_run hhi hk
    obtain ⟨m, ⟨h3, h4, h5, hk⟩, h6⟩ := bnd_run hmx hk
    obtain ⟨i, hi', hz, _⟩ := aty_info hpos
    simp only [Rep] at hx
    obtain ⟨A, c, g1, g2, g3, g4, g5⟩ := hx
    have hm' : ∃ m', h ≤ m' ∧ m' ≤ c ∧ (Instr.sliceAt t (a.eval x) (lo.map a.eval) (hi.map a.eval) (mx.map a.eval)).run P w = .ok (.slice (if m' = l then A else A.map (·.add (l * (aty P e).sz))) (h - l) (m' - l)) w := by
      rw [g1]
      rcases h6 with ⟨rfl, rfl⟩ | ⟨y3, kd3, n3, rfl, q1, q2, rfl⟩
      · refine ⟨c, by omega, Nat.le_refl _, ?_⟩
        rcases h2 with ⟨rfl, rfl⟩ | ⟨y2, kd2, n2, rfl, p1, p2, rfl⟩ <;> rcases h1 with ⟨rfl, rfl⟩ | ⟨y1, kd1, n1, rfl, r1, r2, rfl⟩
        · simp [Instr.sliceAt, Instr.slice, run_underlying (aty_slice hkk), Instr.sliceBounds, sizeOf, typeInfo, hi']
        · simp [Instr.sliceAt, Instr.slice, run_underlying (aty_slice hkk), Instr.sliceBounds, sizeOf, typeInfo, hi', hz, r1, run_bound r2 h3]
        · simp [Instr.sliceAt, Instr.slice, run_underlying (aty_slice hkk), Instr.sliceBounds, sizeOf, typeInfo, hi', p1, run_bound p2 (show n2.toNat ≤ c by omega)]
        · simp [Instr.sliceAt, Instr.slice, run_underlying (aty_slice hkk), Instr.sliceBounds, sizeOf, typeInfo, hi', hz, p1, run_bound p2 (show n2.toNat ≤ c by omega), r1, run_bound r2 h3]
      · refine ⟨n3.toNat, h4, by omega, ?_⟩
        rcases h2 with ⟨rfl, rfl⟩ | ⟨y2, kd2, n2, rfl, p1, p2, rfl⟩
        · exact absurd (hmh rfl) (by simp)
        · rcases h1 with ⟨rfl, rfl⟩ | ⟨y1, kd1, n1, rfl, r1, r2, rfl⟩
          · simp [Instr.sliceAt, Instr.slice, run_underlying (aty_slice hkk), Instr.sliceBounds, sizeOf, typeInfo, hi', p1, q1, run_bound q2 (show n3.toNat ≤ c by omega), run_bound p2 h4]
          · simp [Instr.sliceAt, Instr.slice, run_underlying (aty_slice hkk), Instr.sliceBounds, sizeOf, typeInfo, hi', hz, p1, q1, run_bound q2 (show n3.toNat ≤ c by omega), run_bound p2 h4, r1, run_bound r2 h3]
    obtain ⟨m', k1, k2, hr⟩ := hm'
    have hlen : ((es.take h).drop l).length = h - l := by rw [List.length_drop, List.length_take]; omega
    refine end_pure b he hk ?_ (hrun _ hr)
    simp only [Rep]
    refine ⟨_, _, by rw [hlen], by omega, by omega, ?_, fun hn => ?_⟩
    · trivial
    · have hlt : l < h := by
        rcases Nat.lt_or_ge l h with hh | hh
        · exact hh
        · exact absurd (List.eq_nil_of_length_eq_zero (by rw [hlen]; omega)) hn
      obtain ⟨b', o', sz, vs, f1, f2, f3, f4, f5⟩ := g5 (by intro e'; rw [e'] at h5; simp at h5; omega)
      have f6 := (f5.resize hall).take h
      have f7 := f6.drop l
      rw [if_neg (by omega)]
      refine ⟨b', o' + l * (aty P e).sz, (aty P e).sz, _, by rw [f1]; simp [addr_add], f2, f3, ?_, f7⟩
      refine At.drop (w := w) (b := b') (o := o') (cs := vs.take (h * (aty P e).sz)) (fun j u hu => f4 j u ?_) _
      rw [List.getElem?_take] at hu
      split at hu
      · exact hu
      · cases hu
  · exact hk.elim

/-! What is handed on. -/
theorem z0_rep {M M' : Nat → Prop} (hM : ∀ b, M' b → M b) {u : AV} {v : Value} (h : Rep φ M w u v) (hp0 : p0 u = true) : Rep phi0 M' w (z0 u) v ∧ v.oneCell' = true := by
  have hk : Keep M M' w w := fun b hlt hn => ⟨fun h => hn (hM b h), hlt, rfl⟩
  unfold p0 at hp0
  split at hp0
  · rename_i x
    unfold z0
    split
    · rename_i heq
      cases heq
      simp only [Rep] at h ⊢
      obtain ⟨rfl, h2⟩ := h
      exact ⟨⟨none, 0, rfl, Nat.le_refl _, by decide, trivial, fun hn => absurd rfl hn⟩, h2⟩
    · simp only [Rep] at h ⊢
      exact ⟨h, by rw [h.1]; exact h.2⟩
  · rename_i es
    unfold z0
    have h' := Rep.keep hk (Ext.refl φ) _ _ h
    simp only [Rep] at h' ⊢
    obtain ⟨A, c, rfl, r⟩ := h'
    exact ⟨⟨A, c, rfl, r⟩, rfl⟩
  · cases hp0
theorem z0L_rep {M M' : Nat → Prop} (hM : ∀ b, M' b → M b) : ∀ {us : List AV} {vs : List Value}, RepL φ M w us vs → us.all p0 = true → RepL phi0 M' w (us.map z0) vs
  | [], _, h, _ => by simp only [RepL] at h; subst h; exact RepL.nil
  | u :: us, _, h, hp0 => by
    simp only [RepL] at h
    obtain ⟨v, vs', rfl, h2, h3⟩ := h
    rw [List.all_cons, Bool.and_eq_true] at hp0
    exact RepL.cons (z0_rep hM h2 hp0.1).1 (z0L_rep hM h3 hp0.2)
theorem z0LL_rep {M M' : Nat → Prop} (hM : ∀ b, M' b → M b) {sz : Nat} : ∀ {es : List (List AV)} {vs : List Value}, RepLL φ M w sz es vs → (es.all (·.all p0)) = true → RepLL phi0 M' w sz (es.map (·.map z0)) vs
  | [], _, h, _ => by simp only [RepLL] at h; subst h; exact RepLL.nil sz
  | e :: es, _, h, hp0 => by
    simp only [RepLL] at h
    obtain ⟨x, y, rfl, h2, h3, h4, h5⟩ := h
    rw [List.all_cons, Bool.and_eq_true] at hp0
    exact RepLL.cons h2 h3 (z0L_rep hM h4 hp0.1) (z0LL_rep hM h5 hp0.2)

/-- M after rows are written no more. -/
def Mf (φ : Phi) (hp : Nat → Option Row1) (M0 : Nat → Prop) (ids : List Nat) (b : Nat) : Prop := Mo φ ((Eff.frz ids).app 0 hp) M0 b
theorem mf_sub {ids : List Nat} {b : Nat} (h : Mf φ hp M0 ids b) : Mo φ hp M0 b := by
  rcases h with h | ⟨i, β, v, h1, h2, h3, h4⟩
  · exact .inl h
  · simp only [Eff.app] at h1
    split at h1
    · cases hh : hp i with
      | none => rw [hh] at h1; cases h1
      | some γ => rw [hh] at h1; cases h1; cases h2
    · exact .inr ⟨i, β, v, h1, h2, h3, h4⟩
theorem mf_not (st : St P M0 N w0 F φ σ a w) {ids : List Nat} {i b : Nat} {β : Row1} {v : Value × Nat} (hi : i ∈ ids) (h1 : σ.hp i = some β) (h2 : φ i = some v) (h3 : v.1.ownBlock = some b) : ¬ Mf φ σ.hp M0 ids b := by
  rintro (h | ⟨j, γ, x, k1, k2, k3, k4⟩)
  · obtain ⟨_, xs, h5, _⟩ := st.hpr i β v h1 h2
    rcases st.m0 b h with q | q
    · exact absurd q (by have := (own_lt h5 h3).1; omega)
    · exact st.jo i β v b h1 h2 h3 q
  · simp only [Eff.app] at k1
    split at k1
    · cases hh : σ.hp j with
      | none => rw [hh] at k1; cases k1
      | some δ => rw [hh] at k1; cases k1; cases k2
    · rename_i hn
      have := st.inj j i γ β x v b k1 h1 k3 h2 k4 h3
      exact hn (this ▸ hi)

theorem cl1_rep (st : St P M0 N w0 F φ σ a w) (hpx : ∀ b β v, hp b = some β → φ b = some v → ∃ γ, σ.hp b = some γ ∧ wkR β γ) {u u' : AV} {v : Value} {ids all : List Nat} (h : Rep φ (Mo φ σ.hp M0) w u v) (hc : cl1 hp u = some (u', ids)) (hs : ∀ i ∈ ids, i ∈ all) :
    Rep phi0 (Mf φ σ.hp M0 all) w u' v ∧ v.oneCell' = true := by
  have old : ∀ u, (if p0 u then some (z0 u, ([] : List Nat)) else none) = some (u', ids) → Rep φ (Mo φ σ.hp M0) w u v → Rep phi0 (Mf φ σ.hp M0 all) w u' v ∧ v.oneCell' = true := by
    intro u hc h
    split at hc
    · rename_i hp0
      cases hc
      exact z0_rep (fun b hb => mf_sub hb) h hp0
    · cases hc
  unfold cl1 at hc
  split at hc
  · rename_i i
    cases hh : hp i with
    | none => rw [hh] at hc; cases hc
    | some β =>
      rw [hh] at hc
      dsimp only [Option.bind_some] at hc
      split at hc
      · rename_i hall
        cases hc
        simp only [Rep] at h
        obtain ⟨sz, hφ⟩ := h
        obtain ⟨γ, hb, _⟩ := hpx i β _ hh hφ
        obtain ⟨_, xs, h5, h6⟩ := row_of st hpx hh hφ
        dsimp only at h5 h6
        have hz := z0LL_rep (M' := Mf φ σ.hp M0 all) (fun b hb => mf_sub hb) h6 hall
        refine ⟨?_, st.ones i _ hφ⟩
        simp only [Rep]
        rcases h5.2 with ⟨q1, q2⟩ | ⟨g, cap, cur, q1, q2, q3, q4, q5, _⟩
        · exact ⟨none, 0, by rw [List.length_map, q1, q2], by rw [List.length_map]; omega, by decide, trivial, fun hn => absurd (List.eq_nil_of_length_eq_zero (by rw [List.length_map]; exact q2)) hn⟩
        · refine ⟨some ⟨g, 0, none⟩, cap, by rw [List.length_map]; exact q1, by rw [List.length_map]; exact q4, q5, trivial, fun _ => ⟨g, 0, sz, xs, rfl, ?_, (Array.getElem?_eq_some_iff.1 q3).1, ?_, hz⟩⟩
          · exact mf_not st (hs i (by simp)) hb hφ (by rw [q1]; rfl)
          · intro j y hy
            have := h5.cells (g := g) (by rw [q1]; rfl) j y hy
            rwa [addr_add] at this
      · cases hc
  · rename_i i j off
    cases hh : hp i with
    | none => rw [hh] at hc; cases hc
    | some β =>
      rw [hh] at hc
      dsimp only [Option.bind_some] at hc
      cases he : β.es[j]? with
      | none => rw [he] at hc; cases hc
      | some e =>
        rw [he] at hc
        dsimp only [Option.bind_some] at hc
        split at hc
        · rename_i hall
          cases hc
          rw [Bool.and_eq_true, Bool.not_eq_true'] at hall
          simp only [Rep] at h
          obtain ⟨hd, sz, hφ, hv⟩ := h
          obtain ⟨γ, hb, _⟩ := hpx i β _ hh hφ
          obtain ⟨_, xs, h5, h6⟩ := row_of st hpx hh hφ
          dsimp only at h5 h6
          obtain ⟨p, q, r, q1, q2, q3, q4, q5, _, _⟩ := h6.get he
          have hne : xs ≠ [] := by
            intro e'
            rw [e'] at q1
            have hq : q = [] := by simp at q1; exact q1.2.1
            rw [hq] at q5
            have := RepL.len q5
            cases e with
            | nil => simp at hall
            | cons _ _ => simp at this
          obtain ⟨g, c, r1, r2, r3, r4, r5, r6, r7, r8, _⟩ := own_at h5 hne
          refine ⟨?_, by rw [hv]; rfl⟩
          simp only [Rep]
          refine ⟨g, j * sz, q, by rw [hv, r5], ?_, r6, ?_, q4, z0L_rep (fun b hb => mf_sub hb) q5 hall.1⟩
          · exact mf_not st (hs i (by simp)) hb hφ r4
          · rw [q1] at r8
            have := At.part r8
            rwa [q2, Nat.zero_add] at this
        · cases hc
  · cases hc
    have h' := Rep.keep (φ' := φ) (M' := Mf φ σ.hp M0 all) (fun b hlt hn => ⟨fun h => hn (mf_sub h), hlt, rfl⟩) (Ext.refl φ) _ _ h
    simp only [Rep] at h' ⊢
    refine ⟨h', ?_⟩
    obtain ⟨_, _, _, rfl, _⟩ := h'
    rfl
  · exact old _ hc h
theorem cl1s_rep (st : St P M0 N w0 F φ σ a w) (hpx : ∀ b β v, hp b = some β → φ b = some v → ∃ γ, σ.hp b = some γ ∧ wkR β γ) : ∀ {us us' : List AV} {vs : List Value} {ids all : List Nat}, RepL φ (Mo φ σ.hp M0) w us vs → cl1s hp us = some (us', ids) → (∀ i ∈ ids, i ∈ all) →
    RepL phi0 (Mf φ σ.hp M0 all) w us' vs
  | [], _, _, _, _, h, hc, _ => by
    simp only [cl1s, Option.some.injEq, Prod.mk.injEq] at hc
    obtain ⟨rfl, rfl⟩ := hc
    simp only [RepL] at h ⊢
    exact h
  | u :: us, _, _, _, _, h, hc, hs => by
    simp only [RepL] at h
    obtain ⟨v, vs', rfl, h2, h3⟩ := h
    simp only [cl1s] at hc
    cases h4 : cl1 hp u with
    | none => rw [h4] at hc; cases hc
    | some x =>
      rw [h4] at hc
      dsimp only [Option.bind_some] at hc
      cases h5 : cl1s hp us with
      | none => rw [h5] at hc; cases hc
      | some y =>
        rw [h5] at hc
        dsimp only [Option.bind_some] at hc
        cases hc
        exact RepL.cons (cl1_rep st hpx h2 h4 fun i hi => hs i (List.mem_append_left _ hi)).1 (cl1s_rep st hpx h3 h5 fun i hi => hs i (List.mem_append_right _ hi))
theorem cl_rep (st : St P M0 N w0 F φ σ a w) (hpx : ∀ b β v, hp b = some β → φ b = some v → ∃ γ, σ.hp b = some γ ∧ wkR β γ) {u u' : AV} {v : Value} {ids all : List Nat} (h : Rep φ (Mo φ σ.hp M0) w u v) (hc : cl hp u = some (u', ids)) (hs : ∀ i ∈ ids, i ∈ all) :
    Rep phi0 (Mf φ σ.hp M0 all) w u' v := by
  unfold cl at hc
  split at hc
  · rename_i cs
    cases h1 : cl1s hp cs with
    | none => rw [h1] at hc; cases hc
    | some x =>
      rw [h1] at hc
      cases hc
      simp only [Rep] at h ⊢
      obtain ⟨vs, h2, h3, h4⟩ := h
      exact ⟨vs, h2, h3, cl1s_rep st hpx h4 h1 hs⟩
  · rename_i f cs
    cases h1 : cl1s hp cs with
    | none => rw [h1] at hc; cases hc
    | some x =>
      rw [h1] at hc
      cases hc
      simp only [Rep] at h ⊢
      obtain ⟨vs, h2, h4⟩ := h
      exact ⟨vs, h2, cl1s_rep st hpx h4 h1 hs⟩
  · exact (cl1_rep st hpx h hc hs).1
theorem cls_rep (st : St P M0 N w0 F φ σ a w) (hpx : ∀ b β v, hp b = some β → φ b = some v → ∃ γ, σ.hp b = some γ ∧ wkR β γ) : ∀ {us us' : List AV} {vs : List Value} {ids all : List Nat}, RepL φ (Mo φ σ.hp M0) w us vs → cls hp us = some (us', ids) → (∀ i ∈ ids, i ∈ all) →
    RepL phi0 (Mf φ σ.hp M0 all) w us' vs
  | [], _, _, _, _, h, hc, _ => by
    simp only [cls, Option.some.injEq, Prod.mk.injEq] at hc
    obtain ⟨rfl, rfl⟩ := hc
    simp only [RepL] at h ⊢
    exact h
  | u :: us, _, _, _, _, h, hc, hs => by
    simp only [RepL] at h
    obtain ⟨v, vs', rfl, h2, h3⟩ := h
    simp only [cls] at hc
    cases h4 : cl hp u with
    | none => rw [h4] at hc; cases hc
    | some x =>
      rw [h4] at hc
      dsimp only [Option.bind_some] at hc
      cases h5 : cls hp us with
      | none => rw [h5] at hc; cases hc
      | some y =>
        rw [h5] at hc
        dsimp only [Option.bind_some] at hc
        cases hc
        exact RepL.cons (cl_rep st hpx h2 h4 fun i hi => hs i (List.mem_append_left _ hi)) (cls_rep st hpx h3 h5 fun i hi => hs i (List.mem_append_right _ hi))

theorem noSl0_rep {M M' : Nat → Prop} {w w' : World} {φ' : Phi} {u : AV} {v : Value} (hn : noSl0 u = true) (h : Rep φ M w u v) : Rep φ' M' w' u v := by
  unfold noSl0 at hn
  split at hn
  · simp only [Rep] at h ⊢; exact h
  · simp only [Rep] at h ⊢
    obtain ⟨A, c, h1, h2, h3, h4, _⟩ := h
    exact ⟨A, c, h1, h2, h3, h4, fun hn => absurd rfl hn⟩
  · cases hn
theorem noSl0s_rep {M M' : Nat → Prop} {w w' : World} {φ' : Phi} : ∀ {us : List AV} {vs : List Value}, us.all noSl0 = true → RepL φ M w us vs → RepL φ' M' w' us vs
  | [], _, _, h => by simp only [RepL] at h ⊢; exact h
  | u :: us, _, hn, h => by
    simp only [RepL] at h
    obtain ⟨v, vs', rfl, h2, h3⟩ := h
    rw [List.all_cons, Bool.and_eq_true] at hn
    exact RepL.cons (noSl0_rep hn.1 h2) (noSl0s_rep hn.2 h3)
theorem noSl1_rep {M M' : Nat → Prop} {w w' : World} {φ' : Phi} {u : AV} {v : Value} (hn : noSl1 u = true) (h : Rep φ M w u v) : Rep φ' M' w' u v := by
  unfold noSl1 at hn
  split at hn
  · simp only [Rep] at h ⊢
    obtain ⟨vs, h1, h2, h3⟩ := h
    exact ⟨vs, h1, h2, noSl0s_rep hn h3⟩
  · exact noSl0_rep hn h
theorem noSl1s_rep {M M' : Nat → Prop} {w w' : World} {φ' : Phi} : ∀ {us : List AV} {vs : List Value}, us.all noSl1 = true → RepL φ M w us vs → RepL φ' M' w' us vs
  | [], _, _, h => by simp only [RepL] at h ⊢; exact h
  | u :: us, _, hn, h => by
    simp only [RepL] at h
    obtain ⟨v, vs', rfl, h2, h3⟩ := h
    rw [List.all_cons, Bool.and_eq_true] at hn
    exact RepL.cons (noSl1_rep hn.1 h2) (noSl1s_rep hn.2 h3)
theorem noSl_rep {M M' : Nat → Prop} {w w' : World} {φ' : Phi} {u : AV} {v : Value} (hn : noSl u = true) (h : Rep φ M w u v) : Rep φ' M' w' u v := by
  unfold noSl at hn
  split at hn
  · simp only [Rep] at h ⊢
    obtain ⟨vs, h1, h3⟩ := h
    exact ⟨vs, h1, noSl1s_rep hn h3⟩
  · exact noSl1_rep hn h

theorem noSl0LL_rep {M M' : Nat → Prop} {φ φ' : Phi} {w w' : World} {sz : Nat} : ∀ {es : List (List AV)} {vs : List Value}, (es.all (·.all noSl0)) = true → RepLL φ M w sz es vs → RepLL φ' M' w' sz es vs
  | [], _, _, h => by simp only [RepLL] at h ⊢; exact h
  | e :: es, _, hn, h => by
    simp only [RepLL] at h
    obtain ⟨x, y, rfl, h2, h3, h4, h5⟩ := h
    rw [List.all_cons, Bool.and_eq_true] at hn
    exact RepLL.cons h2 h3 (noSl0s_rep hn.1 h4) (noSl0LL_rep hn.2 h5)
theorem reps {M : Nat → Prop} {ev : Operand → AV} : ∀ {l : List Operand}, (∀ x ∈ l, Rep φ M w (ev x) (a.eval x)) → RepL φ M w (l.map ev) (l.map a.eval)
  | [], _ => RepL.nil
  | _ :: _, h => RepL.cons (h _ (by simp)) (reps fun y hy => h y (by simp [hy]))
theorem frz_nil (hp : Nat → Option Row1) (i : Nat) : (Eff.frz []).app i hp = hp := by
  funext j
  simp [Eff.app]

theorem enter_run {f : FuncId} (hc : Callable P f) (args : Array Value) (w : World) : (callFunc f args).run P w = .ok (.enter f args) w := by
  obtain ⟨fn, g1, g2, g3⟩ := hc
  cases hbd : fn.body with
  | none => rw [hbd] at g2; cases g2
  | some bd =>
    simp only [callFunc, Sem.run_bind, Sem.run_pure, Result.andThen_ok, run_program, g1, g3, hbd]
    simp
/-- A call: what is entered, and the values that it is handed. -/
theorem call_core (b : Begin P M0 N w0 F φ σ a w hp id o) (he : Ends P M0 N w0 F σ id o k K) (hC : ∀ w w', C w → Below w.heap.size w w' → C w') (hc0 : C w0) {f : FuncId} {as : List AV} {vs : List Value}
    (hargs : RepL φ (Mo φ σ.hp M0) w as vs) (enter : Callable P f → (execOp a.eval o).run P w = .ok (.enter f vs.toArray) w) (hk : opCall P C id f hp as k) : o.wp P a w K Q := by
  have hCw := hC w0 w hc0 b.st.below
  rcases hk with ⟨us, ids, h1, R, hcon, hk⟩ | hk
  · have hcl := cls_rep b.st b.hpx hargs h1 (all := ids) (fun _ h => h)
    have hM : ∀ q, Mf φ σ.hp M0 ids q → q < w.heap.size := fun q hq => mo_lt b.st (mf_sub hq)
    have hcallable : Callable P f := by cases R <;> exact hcon.1
    unfold Oper.wp
    rw [enter hcallable]
    cases R with
    | val r =>
      refine (hcon.2 _ w _ hM hCw hcl).mono ?_
      rintro e w' ⟨v, rfl, hr, hb⟩
      dsimp only at hk ⊢
      by_cases hn : noSl r = true
      · rw [if_pos hn] at hk
        have hst := ((b.st.on hb).sub (F' := fun i => F i ∧ i ≠ id) fun _ h => h.1).put (u := r) (v := v) (noSl_rep hn hr) o.dst b.dst
        refine he _ _ hk φ _ w' ?_
        rw [frz_nil]
        exact hst
      · rw [if_neg hn] at hk
        refine he _ _ hk φ _ w' ?_
        exact (((b.st.frz ids).on hb).sub (F' := fun i => F i ∧ i ≠ id) fun _ h => h.1).put (Rep.keep (Keep.refl _ w') (ext0 φ) _ _ hr) o.dst b.dst
    | fresh e es =>
      refine (hcon.2 _ w _ hM hCw hcl).mono ?_
      rintro e' w' ⟨v, xs, rfl, hown, hr, hb⟩
      obtain ⟨hids, hk⟩ := hk
      subst hids
      dsimp only at hk ⊢
      have hmf : ∀ q, Mf φ σ.hp M0 [] q ↔ Mo φ σ.hp M0 q := fun q => by unfold Mf; rw [frz_nil]
      have hown' : w'.ownsRow w0.heap.size e (aty P e).sz v es.length xs := own_base hown b.st.below.size
      have hg : w.grownBy w' none := ⟨hb.os, hb.tape, hb.output, hb.size, fun q hq _ => hb.block q hq⟩
      have hkp : Keep (fun q => Mf φ σ.hp M0 [] q ∨ v.ownBlock = some q) (fun q => Mo φ σ.hp M0 q ∨ v.ownBlock = some q) w' w' := fun q hlt hn => ⟨fun h => hn (h.imp (hmf q).2 fun h => h), hlt, rfl⟩
      have hv1 : v.oneCell' = true := by obtain ⟨A', c', hv, _⟩ := own_form hown; rw [hv]; rfl
      obtain ⟨φ', g1, g2, g3⟩ := b.st.new b.free hg hown' (fun q hq => (hown.lt q hq).1) hv1 (RepLL.keep hkp (ext0 φ) _ _ _ hr) rfl
      exact he _ _ hk φ' _ w' (g3.put (by simp only [Rep]; exact ⟨_, g2⟩) o.dst b.dst)
  · unfold opMove at hk
    split at hk
    · rename_i i rest
      obtain ⟨β, us, ids, es', h1, h2, h3, h4, h5, h6, hcon, hk⟩ := hk
      simp only [RepL] at hargs
      obtain ⟨hd, vs', rfl, hhd, hargs⟩ := hargs
      simp only [Rep] at hhd
      obtain ⟨sz, hφ⟩ := hhd
      obtain ⟨γ, hb, wt, wm, _⟩ := b.hpx i β _ h1 hφ
      obtain ⟨hsz, xs, h7, h8⟩ := row_of b.st b.hpx h1 hφ
      dsimp only at hsz h7 h8
      subst hsz
      have hcl := cls_rep b.st b.hpx hargs h4 (all := ids) (fun _ h => h)
      have hM : ∀ q, Mf φ σ.hp M0 ids q → q < w.heap.size := fun q hq => mo_lt b.st (mf_sub hq)
      have hrow := z0LL_rep (M' := Mf φ σ.hp M0 ids) (fun b hb => mf_sub hb) h8 h3
      have hown : ∀ q, hd.ownBlock = some q → Mf φ σ.hp M0 ids q := fun q hq => .inr ⟨i, γ, _, by simp only [Eff.app]; rw [if_neg h5]; exact hb, wm.symm.trans h2, hφ, hq⟩
      unfold Oper.wp
      rw [enter hcon.1]
      refine (hcon.2 _ w0 w hd xs vs' hc0 b.st.below hM (by rw [List.length_map]; exact h7) hrow hown hcl).mono ?_
      rintro e w' ⟨v, xs', rfl, g1, g2, g3, g4⟩
      have hv1 : v.oneCell' = true := by obtain ⟨A', c', hv, _⟩ := own_form g1; rw [hv]; rfl
      obtain ⟨φ', q1, q2, q3⟩ := b.st.grow hb (wm.symm.trans h2) hφ b.free (es := es') (xs := xs') (v' := v) g3 (by rw [← wt]; exact g1) g4 hv1 (noSl0LL_rep h6 g2)
      rw [← wt] at q3
      exact he _ _ hk φ' _ w' (q3.put (by simp only [Rep]; exact ⟨_, q2⟩) o.dst b.dst)
    · rename_i rest
      obtain ⟨e, us, ids, es', h4, h6, hcon, hk⟩ := hk
      simp only [RepL] at hargs
      obtain ⟨hd, vs', rfl, hhd, hargs⟩ := hargs
      have hv := rep_ex hhd rfl
      subst hv
      have hcl := cls_rep b.st b.hpx hargs h4 (all := ids) (fun _ h => h)
      have hM : ∀ q, Mf φ σ.hp M0 ids q → q < w.heap.size := fun q hq => mo_lt b.st (mf_sub hq)
      unfold Oper.wp
      rw [enter hcon.1]
      refine (hcon.2 _ w0 w (.slice none 0 0) [] vs' hc0 b.st.below hM (World.ownsRow_nil w w0.heap.size e (aty P e).sz) (RepLL.nil _) (fun q hq => by cases hq) hcl).mono ?_
      rintro e' w' ⟨v, xs', rfl, g1, g2, g3, g4⟩
      have hv1 : v.oneCell' = true := by obtain ⟨A', c', hv, _⟩ := own_form g1; rw [hv]; rfl
      obtain ⟨φ', q1, q2, q3⟩ := b.st.new b.free (w' := w') g3 g1 (fun q hq => (g4 q hq).elim (fun h => by cases h) fun h => h) hv1 (noSl0LL_rep h6 g2) rfl
      exact he _ _ hk φ' _ w' (q3.put (by simp only [Rep]; exact ⟨_, q2⟩) o.dst b.dst)
    · exact hk.elim
theorem call_sound (b : Begin P M0 N w0 F φ σ a w hp id o) (he : Ends P M0 N w0 F σ id o k K) (hC : ∀ w w', C w → Below w.heap.size w w' → C w') (hc0 : C w0) {c : Call} {f : FuncId} (ho : o.op = .call c) (hcal : c.callee = .value (.func f)) {ev : Operand → AV}
    (hx : ∀ x ∈ c.args.toList, Rep φ (Mo φ σ.hp M0) w (ev x) (a.eval x)) (hk : opCall P C id f hp (c.args.toList.map ev) k) : o.wp P a w K Q := by
  refine call_core b he hC hc0 (vs := c.args.toList.map a.eval) (reps hx) (fun hc => ?_) hk
  have hae : (c.args.toList.map a.eval).toArray = c.args.map a.eval := by apply Array.ext'; simp
  rw [hae, ← enter_run hc (c.args.map a.eval) w]
  simp [execOp, ho, resolve, hcal, Act.eval, Deferred.ofValue, invoke]
theorem callv_sound (b : Begin P M0 N w0 F φ σ a w hp id o) (he : Ends P M0 N w0 F σ id o k K) (hC : ∀ w w', C w → Below w.heap.size w w' → C w') (hc0 : C w0) {c : Call} {t : Nat} (ho : o.op = .call c) (hcal : c.callee = .value (.tmp t)) {ev : Operand → AV}
    (hx : ∀ x ∈ c.args.toList, Rep φ (Mo φ σ.hp M0) w (ev x) (a.eval x)) (hv : Rep φ (Mo φ σ.hp M0) w (ev (.tmp t)) (a.eval (.tmp t)))
    (hk : match ev (.tmp t) with | .fn f caps => opCall P C id f hp (c.args.toList.map ev ++ caps) k | .ex (.func (.func f) x y) => (x = #[] ∧ y = #[]) ∧ opCall P C id f hp (c.args.toList.map ev) k | _ => False) : o.wp P a w K Q := by
  split at hk
  · rename_i f caps heq
    rw [heq] at hv
    simp only [Rep] at hv
    obtain ⟨vs, h1, h2⟩ := hv
    refine call_core b he hC hc0 (vs := c.args.toList.map a.eval ++ vs) ((reps hx).app h2) (fun hc => ?_) hk
    have hae : (c.args.toList.map a.eval ++ vs).toArray = c.args.map a.eval ++ vs.toArray := by apply Array.ext'; simp
    rw [hae, ← enter_run hc (c.args.map a.eval ++ vs.toArray) w]
    simp [execOp, ho, resolve, hcal, h1, Deferred.ofValue, invoke]
  · rename_i f x y heq
    obtain ⟨⟨rfl, rfl⟩, hk⟩ := hk
    have h1 := rep_ex hv heq
    refine call_core b he hC hc0 (vs := c.args.toList.map a.eval) (reps hx) (fun hc => ?_) hk
    have hae : (c.args.toList.map a.eval).toArray = c.args.map a.eval := by apply Array.ext'; simp
    rw [hae, ← enter_run hc (c.args.map a.eval) w]
    simp [execOp, ho, resolve, hcal, h1, Deferred.ofValue, invoke]
  · exact hk.elim
end
end Go.Proofs.YtaphbajfjmhpnaaDoor

namespace Go.Proofs.YtaphbajfjmhpnaaDoor
open Go.RowKit
set_option maxRecDepth 100000

section
variable {P : Program} {C : World → Prop} {w : World} {M0 : Nat → Prop} {N : Nat} {w0 : Root} {F : Nat → Prop} {φ : Phi} {σ : AS} {a : Act} {hp : Nat → Option Row1} {id : Nat} {o : Oper} {k : AV → Eff → Prop} {K : Act → World → Prop} {Q : Exit → Act → World → Prop}

theorem aval_sound (b : Begin P M0 N w0 F φ σ a w hp id o) (he : Ends P M0 N w0 F σ id o k K) (hC : ∀ w w', C w → Below w.heap.size w w' → C w') (hc0 : C w0) {ev : Operand → AV}
    (hx : ∀ x ∈ o.op.operands, Rep φ (Mo φ σ.hp M0) w (ev x) (a.eval x)) (hk : aval P C id o.op o.type ev hp k) : o.wp P a w K Q := by
  obtain ⟨dst, op, type, pos, after, guard⟩ := o
  dsimp only at hk hx
  have ho := (rfl : (Oper.mk dst op type pos after guard).op = op)
  cases op with
  | move x => exact end_pure b he hk (hx x (by simp [Op.operands])) (by simp [execOp])
  | assign x => exact assign_sound b he ho (hx x (by simp [Op.operands])) hk
  | pick c x y =>
    obtain ⟨t, h1, hk⟩ := hk
    have e1 := rep_ex (hx c (by simp [Op.operands])) h1
    refine end_pure b he hk (v := if t then a.eval x else a.eval y) ?_ (by simp [execOp, e1, asBool])
    cases t
    · exact hx y (by simp [Op.operands])
    · exact hx x (by simp [Op.operands])
  | alloc t => exact alloc_sound b he ho hk
  | box t x => exact box_sound b he ho (hx x (by simp [Op.operands])) hk
  | build t parts => exact build_sound b he ho (fun x h => hx x.2 (by simp [Op.operands]; exact ⟨x.1, by simpa using h⟩)) hk
  | buildSlice t n parts => exact buildSlice_sound b he ho (fun x h => hx x.2 (by simp [Op.operands]; exact ⟨x.1, by simpa using h⟩)) hk
  | load t x => exact load_sound (C := C) b he ho (hx x (by simp [Op.operands])) hk
  | store t x v => exact store_sound (C := C) b he ho (hx x (by simp [Op.operands])) (hx v (by simp [Op.operands])) hk
  | nilCheck x => exact nilCheck_sound (C := C) b he ho (hx x (by simp [Op.operands])) hk
  | binOp op t x y ty => exact bin_sound b he ho (hx x (by simp [Op.operands])) (hx y (by simp [Op.operands])) hk
  | unOp op ty x => exact un_sound b he ho (hx x (by simp [Op.operands])) hk
  | convert s d x => exact conv_sound b he ho (hx x (by simp [Op.operands])) hk
  | makeSlice t x y => exact makeSlice_sound (C := C) b he ho (hx x (by simp [Op.operands])) (hx y (by simp [Op.operands])) hk
  | slice t x lo hi mx => exact slice_sound b he ho (hx x (by simp [Op.operands])) (fun y h => hx y (by simp [Op.operands, h])) (fun y h => hx y (by simp [Op.operands, h])) (fun y h => hx y (by simp [Op.operands, h])) hk
  | fieldAddr s x f => exact fieldAddr_sound (C := C) b he ho (hx x (by simp [Op.operands])) hk
  | field s x f => exact field_sound (C := C) b he ho (hx x (by simp [Op.operands])) hk
  | indexAddr t x i => exact indexAddr_sound b he ho (hx x (by simp [Op.operands])) (hx i (by simp [Op.operands])) hk
  | index t x i => exact index_sound b he ho (hx x (by simp [Op.operands])) (hx i (by simp [Op.operands])) hk
  | extract x i => exact extract_sound (C := C) b he ho (hx x (by simp [Op.operands])) hk
  | makeFunc fn first captured =>
    cases fn with
    | func f =>
      obtain ⟨rfl, hk⟩ := hk
      refine end_pure b he hk (v := .func (.func f) #[] (captured.toList.map a.eval).toArray) ?_ ?_
      · simp only [Rep]
        exact ⟨_, rfl, reps fun x hx' => hx x (by simp [Op.operands]; simpa using hx')⟩
      · have : (captured.toList.map a.eval).toArray = captured.map a.eval := by apply Array.ext'; simp
        rw [this]
        simp [execOp, Instr.makeFunc]
    | _ => exact hk.elim
  | call c =>
    unfold aval at hk
    dsimp only at hk
    have harg : ∀ x ∈ c.args.toList, Rep φ (Mo φ σ.hp M0) w (ev x) (a.eval x) := fun x h => hx x (by simp [Op.operands, Call.operands]; exact .inr (by simpa using h))
    cases hcal : c.callee with
    | value f =>
      rw [hcal] at hk
      cases f with
      | func f => exact call_sound b he hC hc0 ho hcal harg hk
      | tmp t => exact callv_sound b he hC hc0 ho hcal harg (hx (.tmp t) (by simp [Op.operands, Call.operands, hcal])) hk
      | _ => exact hk.elim
    | invoke r m => rw [hcal] at hk; exact hk.elim
    | builtin bi =>
      rw [hcal] at hk
      cases bi with
      | len =>
        dsimp only at hk
        split at hk
        · rename_i x t h1 h2
          exact len_sound b he ⟨c, ho, hcal, by apply Array.ext'; simpa using h1, by apply Array.ext'; simpa using h2⟩ (harg x (by rw [h1]; simp)) hk
        · exact hk.elim
      | append =>
        dsimp only at hk
        split at hk
        · rename_i s x t t2 h1 h2
          split at hk
          · rename_i e hkk
            have hs := harg s (by rw [h1]; simp)
            have hxx := harg x (by rw [h1]; simp)
            split at hk
            · exact hk.elim
            · obtain ⟨rfl, ns, h3, hk⟩ := hk
              obtain ⟨A, cc, g1, _, _, g4, sz, vs, g5, g6⟩ := rd_rep b hxx h3
              refine app_end b he hkk hs g1 g4 g5 g6 ?_ hk
              intro r w' hr
              have ha1 : c.args = #[s, x] := by apply Array.ext'; simpa using h1
              have ha2 : c.argTypes = #[t2, t2] := by apply Array.ext'; simpa using h2
              simp [execOp, resolve, hcal, ha1, ha2, invoke, builtin, hr]
          · exact hk.elim
        · exact hk.elim
      | min =>
        dsimp only at hk
        split at hk
        · rename_i x y h1
          obtain ⟨kd, p, kd', q, h2, h3, hk⟩ := hk
          have e1 := rep_ex (harg x (by rw [h1]; simp)) h2
          have e2 := rep_ex (harg y (by rw [h1]; simp)) h3
          have ha1 : c.args = #[x, y] := by apply Array.ext'; simpa using h1
          refine end_pure b he hk (ex_rep _ rfl) ?_
          simp [execOp, resolve, hcal, ha1, invoke, builtin, Builtin.min_, Builtin.min2, e1, e2]
        · exact hk.elim
      | max =>
        dsimp only at hk
        split at hk
        · rename_i x y h1
          obtain ⟨kd, p, kd', q, h2, h3, hk⟩ := hk
          have e1 := rep_ex (harg x (by rw [h1]; simp)) h2
          have e2 := rep_ex (harg y (by rw [h1]; simp)) h3
          have ha1 : c.args = #[x, y] := by apply Array.ext'; simpa using h1
          refine end_pure b he hk (ex_rep _ rfl) ?_
          simp [execOp, resolve, hcal, ha1, invoke, builtin, Builtin.max_, Builtin.max2, e1, e2]
        · exact hk.elim
      | _ => exact hk.elim
  | _ => exact hk.elim
end
end Go.Proofs.YtaphbajfjmhpnaaDoor
