/-
  The machine's single operations at values that stand for values without memory. Conditions: those that each theorem states.
-/
import Derived.Test.YtaphbajfjmhpnaaDoorAbs3
import Derived.Great.BuildSlice
import Derived.Laws.StructEq
namespace Go.Proofs.YtaphbajfjmhpnaaDoor
open Go.RowKit
set_option maxRecDepth 100000

section types
variable {P : Program} {t e n : Nat}
theorem aty_slice (h : (aty P t).k = .slice e) : P.underlying t = some (.slice e) := by
  unfold aty at h; dsimp only at h
  split at h <;> first | (cases h; done) | (injection h with h; subst h; assumption)
theorem aty_arr (h : (aty P t).k = .arr n e) : P.underlying t = some (.array n e) := by
  unfold aty at h; dsimp only at h
  split at h <;> first | (cases h; done) | (injection h with h h'; subst h; subst h'; assumption)
theorem aty_int {k : IntKind} (h : (aty P t).k = .int k) : P.underlying t = some (.int k) := by
  unfold aty at h; dsimp only at h
  split at h <;> first | (cases h; done) | (injection h with h; subst h; assumption)
theorem aty_str (h : (aty P t).k = .str) : P.underlying t = some .string := by
  unfold aty at h; dsimp only at h
  split at h <;> first | (cases h; done) | assumption
theorem aty_bool (h : (aty P t).k = .bool) : P.underlying t = some .bool := by
  unfold aty at h; dsimp only at h
  split at h <;> first | (cases h; done) | assumption
theorem aty_struct (h : (aty P t).k = .struct) : ∃ fs, P.underlying t = some (.struct fs) := by
  unfold aty at h; dsimp only at h
  split at h <;> first | (cases h; done) | exact ⟨_, by assumption⟩
theorem aty_iface (h : (aty P t).k = .iface) : ∃ ms, P.underlying t = some (.interface ms) := by
  unfold aty at h; dsimp only at h
  split at h <;> first | (cases h; done) | exact ⟨_, by assumption⟩
theorem aty_info (h : 0 < (aty P t).sz) : ∃ i, P.info? t = some i ∧ i.size = (aty P t).sz ∧ i.bytes = (aty P t).bytes := by
  unfold aty at h ⊢; dsimp only at h ⊢
  cases hi : P.info? t with
  | none => rw [hi] at h; simp at h
  | some i => exact ⟨i, rfl, by simp, by simp⟩
theorem aty_zero (h : 0 < (aty P t).sz) (hz : (aty P t).zero.length = (aty P t).sz) : ∃ i z, P.info? t = some i ∧ i.zero = some z ∧ i.size = (aty P t).sz ∧ i.bytes = (aty P t).bytes ∧ z.cells.toList = (aty P t).zero := by
  obtain ⟨i, h1, h2, h3⟩ := aty_info h
  have e : (aty P t).zero = ((i.zero).map (·.cells.toList)).getD [] := by unfold aty; simp [h1]
  cases hq : i.zero with
  | none => rw [e, hq] at hz; simp at hz; omega
  | some z => exact ⟨i, z, h1, hq, h2, h3, by rw [e, hq]; rfl⟩
theorem run_isAgg_t (h : (aty P t).isAgg = true) (w : World) : (isAgg t).run P w = .ok true w := by
  unfold ATy.isAgg at h
  cases hk : (aty P t).k with
  | struct => obtain ⟨fs, hu⟩ := aty_struct hk; simp [isAgg, run_underlying hu]
  | arr n e => simp [isAgg, run_underlying (aty_arr hk)]
  | _ => rw [hk] at h; cases h
theorem run_isAgg_f (h : (aty P t).known = true) (w : World) : (isAgg t).run P w = .ok false w := by
  unfold ATy.known aty at h
  dsimp only at h
  cases hu : P.underlying t with
  | none => rw [hu] at h; cases h
  | some d => rw [hu] at h; cases d <;> first | (cases h; done) | simp [isAgg, run_underlying hu]
end types

section
variable {P : Program} {w : World}
theorem addr_add (b o n : Nat) : (⟨b, o, none⟩ : Addr).add n = ⟨b, o + n, none⟩ := by unfold Addr.add; split <;> simp_all
theorem run_loadVar_agg {t b o off : Nat} {vs : List Value} (h : At w b o vs) (ha : (aty P t).isAgg = true) (hs : 0 < (aty P t).sz) (hl : off + (aty P t).sz ≤ vs.length) :
    (loadVar t ⟨b, o + off, none⟩).run P w = .ok (.agg ((vs.drop off).take (aty P t).sz).toArray) w := by
  obtain ⟨i, hi, hz, _⟩ := aty_info hs
  have hr := run_loadCells_list (P := P) w ⟨b, o + off, none⟩ ((vs.drop off).take (aty P t).sz) (fun j v hv => by
    rw [addr_add]
    have hj : j < (aty P t).sz := by
      have := (List.getElem?_eq_some_iff.1 hv).1
      rw [List.length_take] at this
      omega
    rw [List.getElem?_take_of_lt hj, List.getElem?_drop] at hv
    rw [Nat.add_assoc]
    exact h _ _ hv)
  rw [show ((vs.drop off).take (aty P t).sz).length = (aty P t).sz by rw [List.length_take, List.length_drop]; omega] at hr
  simp [loadVar, run_isAgg_t ha, sizeOf, typeInfo, hi, hz, hr]
theorem run_loadVar_one {t b o off : Nat} {v : Value} (h : w.cell? ⟨b, o + off, none⟩ = some v) (ha : (aty P t).known = true) :
    (loadVar t ⟨b, o + off, none⟩).run P w = .ok v w := by
  simp [loadVar, run_isAgg_f ha, h]
theorem run_part_agg {t off : Nat} {vs : List Value} (ha : (aty P t).isAgg = true) (hs : 0 < (aty P t).sz) : (part t vs.toArray off).run P w = .ok (.agg ((vs.drop off).take (aty P t).sz).toArray) w := by
  obtain ⟨i, hi, hz, _⟩ := aty_info hs
  have e : vs.toArray.extract off (off + (aty P t).sz) = ((vs.drop off).take (aty P t).sz).toArray := by
    apply Array.ext'
    simp
  simp only [part, Sem.run_bind, run_isAgg_t ha, Result.andThen_ok, if_true, sizeOf, typeInfo, run_program, hi, hz, Sem.run_pure, e]
theorem run_part_one {t off : Nat} {vs : List Value} {v : Value} (h : vs[off]? = some v) (ha : (aty P t).known = true) : (part t vs.toArray off).run P w = .ok v w := by
  simp [part, run_isAgg_f ha, h]
theorem own_at {base e sz n : Nat} {v : Value} {xs : List Value} (h : w.ownsRow base e sz v n xs) (hn : xs ≠ []) : ∃ g c, v = .slice (some ⟨g, 0, none⟩) n c ∧ n ≤ c ∧ c ≤ maxLen ∧ v.ownBlock = some g ∧ blkOf v = g ∧ g < w.heap.size ∧ base ≤ g ∧ At w g 0 xs ∧
    ∃ cur, w.heap[g]? = some (.cells cur e (0, 0)) ∧ cur.size = c * sz ∧ cur.toList.take (n * sz) = xs := by
  rcases h.2 with ⟨_, h2⟩ | ⟨g, cap, cur, hv, hg, hh, h3, h4, h5, h6⟩
  · exfalso
    apply hn
    apply List.eq_nil_of_length_eq_zero
    rw [h.1, h2, Nat.zero_mul]
  · refine ⟨g, cap, hv, h3, h4, by rw [hv]; rfl, by rw [hv]; rfl, (Array.getElem?_eq_some_iff.1 hh).1, hg, fun j u hu => ?_, cur, hh, h5, h6⟩
    have := h.cells (g := g) (by rw [hv]; rfl) j u hu
    rwa [addr_add] at this
theorem wp_val {o : Oper} {a : Act} {w w' : World} {K : Act → World → Prop} {Q : Exit → Act → World → Prop} {v : Value} (h : (execOp a.eval o).run P w = .ok (.value v) w') (k : K (a.put o.dst v) w') : o.wp P a w K Q := by
  unfold Oper.wp; rw [h]; exact k
theorem wp_skp {o : Oper} {a : Act} {w w' : World} {K : Act → World → Prop} {Q : Exit → Act → World → Prop} (h : (execOp a.eval o).run P w = .ok .skip w') (k : K (a.put o.dst undef) w') : o.wp P a w K Q := by
  unfold Oper.wp; rw [h]; exact k

variable {M0 : Nat → Prop} {N : Nat} {w0 : Root} {F : Nat → Prop} {φ : Phi} {σ : AS} {a : Act} {hp : Nat → Option Row1} {id : Nat} {o : Oper} {k : AV → Eff → Prop} {K : Act → World → Prop} {Q : Exit → Act → World → Prop}

/-- What is known where an operation begins. -/
structure Begin (P : Program) (M0 : Nat → Prop) (N : Nat) (w0 : Root) (F : Nat → Prop) (φ : Phi) (σ : AS) (a : Act) (w : World) (hp : Nat → Option Row1) (id : Nat) (o : Oper) : Prop where
  st : St P M0 N w0 F φ σ a w
  free : F id
  hpx : ∀ b β v, hp b = some β → φ b = some v → ∃ γ, σ.hp b = some γ ∧ wkR β γ
  dst : ∀ t, o.dst = some t → t < N
/-- What is to be shown behind it. -/
def Ends (P : Program) (M0 : Nat → Prop) (N : Nat) (w0 : Root) (F : Nat → Prop) (σ : AS) (id : Nat) (o : Oper) (k : AV → Eff → Prop) (K : Act → World → Prop) : Prop :=
  ∀ u f, k u f → ∀ φ' a' w', St P M0 N w0 (fun i => F i ∧ i ≠ id) φ' ({ σ with hp := f.app id σ.hp }.put o.dst u) a' w' → K a' w'

theorem end_pure (b : Begin P M0 N w0 F φ σ a w hp id o) (he : Ends P M0 N w0 F σ id o k K) {u : AV} {v : Value} (hk : k u .none) (hu : Rep φ (Mo φ σ.hp M0) w u v)
    (hr : (execOp a.eval o).run P w = .ok (.value v) w) : o.wp P a w K Q :=
  wp_val hr (he u .none hk φ _ w ((b.st.sub fun _ h => h.1).put hu o.dst b.dst))
theorem end_world (b : Begin P M0 N w0 F φ σ a w hp id o) (he : Ends P M0 N w0 F σ id o k K) {w' : World} {u : AV} {v : Value} (hk : k u .none) (hb : Below w.heap.size w w') (hu : Rep φ (Mo φ σ.hp M0) w' u v)
    (hr : (execOp a.eval o).run P w = .ok (.value v) w') : o.wp P a w K Q :=
  wp_val hr (he u .none hk φ _ w' (((b.st.on hb).sub fun _ h => h.1).put hu o.dst b.dst))
theorem end_new (b : Begin P M0 N w0 F φ σ a w hp id o) (he : Ends P M0 N w0 F σ id o k K) {w' : World} (hg : w.grownBy w' none) {ty sz : Nat} {es : List (List AV)} {v r : Value} {xs : List Value} {u : AV}
    (hk : k u (.new ⟨ty, es, true⟩)) (hown : w'.ownsRow w0.heap.size ty sz v es.length xs) (hkk : ∀ k, v.ownBlock = some k → w.heap.size ≤ k) (hv : v.oneCell' = true)
    (hrep : RepLL φ (Mo φ σ.hp M0) w sz es xs) (hsz : sz = (aty P ty).sz) (hu : ∀ φ' M, φ' id = some (v, sz) → Rep φ' M w' u r)
    (hr : (execOp a.eval o).run P w = .ok (.value r) w') : o.wp P a w K Q := by
  have hkp : Keep (Mo φ σ.hp M0) (fun b => Mo φ σ.hp M0 b ∨ v.ownBlock = some b) w w' := fun c hlt hn =>
    ⟨fun h => h.elim hn fun h => absurd (hkk c h) (by omega), Nat.lt_of_lt_of_le hlt hg.size, hg.block c hlt (by simp)⟩
  obtain ⟨φ', h1, h2, h3⟩ := b.st.new b.free hg hown hkk hv (RepLL.keep hkp (Ext.refl φ) _ _ _ hrep) hsz
  exact wp_val hr (he u _ hk φ' _ w' (h3.put (hu φ' _ h2) o.dst b.dst))

/-- A row of the call's own that is read. -/
theorem row_of (st : St P M0 N w0 F φ σ a w) (hpx : ∀ b β v, hp b = some β → φ b = some v → ∃ γ, σ.hp b = some γ ∧ wkR β γ) {i : Nat} {β : Row1} {v : Value × Nat} (h1 : hp i = some β) (h2 : φ i = some v) :
    v.2 = (aty P β.ty).sz ∧ ∃ xs, w.ownsRow w0.heap.size β.ty v.2 v.1 β.es.length xs ∧ RepLL φ (Mo φ σ.hp M0) w v.2 β.es xs := by
  obtain ⟨γ, k1, k2, _, k3⟩ := hpx i β v h1 h2
  obtain ⟨h3, xs, h4, h5⟩ := st.hpr i γ v k1 h2
  rw [k2, wkLL_len k3]
  exact ⟨h3, xs, h4, wkLL_rep k3 h5⟩
/-- A slice that is read. -/
theorem rd_rep (b : Begin P M0 N w0 F φ σ a w hp id o) {u : AV} {v : Value} {es : List (List AV)} (hu : Rep φ (Mo φ σ.hp M0) w u v) (hr : rdSl hp u = some es) :
    ∃ A c, v = .slice A es.length c ∧ es.length ≤ c ∧ c ≤ maxLen ∧ True ∧ ∃ sz vs, RepLL φ (Mo φ σ.hp M0) w sz es vs ∧ (es ≠ [] → ∃ g o, A = some ⟨g, o, none⟩ ∧ g < w.heap.size ∧ At w g o vs) := by
  unfold rdSl at hr
  split at hr
  · cases hr
    simp only [Rep] at hu
    obtain ⟨A, c, h1, h2, h3, h4, h5⟩ := hu
    by_cases hn : es = []
    · exact ⟨A, c, h1, h2, h3, h4, 0, [], by rw [hn]; exact RepLL.nil 0, fun h => absurd hn h⟩
    · obtain ⟨g, o, sz, vs, g1, _, g3, g4, g5⟩ := h5 hn
      exact ⟨A, c, h1, h2, h3, h4, sz, vs, RepLL.keep (Keep.refl _ w) (ext0 φ) _ _ _ g5, fun _ => ⟨g, o, g1, g3, g4⟩⟩
  · rename_i i
    cases hb : hp i with
    | none => rw [hb] at hr; cases hr
    | some β =>
      rw [hb] at hr
      cases hr
      simp only [Rep] at hu
      obtain ⟨sz, hφ⟩ := hu
      obtain ⟨_, xs, h1, h2⟩ := row_of b.st b.hpx hb hφ
      dsimp only at h1 h2
      by_cases hn : xs = []
      · rcases h1.2 with ⟨q1, q2⟩ | ⟨g, cap, cur, q1, _, _, q3, q4, _⟩
        · exact ⟨none, 0, by rw [q1, q2], Nat.le_of_eq q2, by decide, trivial, sz, xs, h2, fun h => absurd (List.eq_nil_of_length_eq_zero q2) h⟩
        · refine ⟨some ⟨g, 0, none⟩, cap, q1, q3, q4, trivial, sz, xs, h2, fun h => ⟨g, 0, rfl, ?_, ?_⟩⟩
          · exact (h1.lt g (by rw [q1]; rfl)).2
          · rw [hn]; intro j u hu; simp at hu
      · obtain ⟨g, c, q1, q2, q3, _, _, q6, _, q7, _⟩ := own_at h1 hn
        exact ⟨some ⟨g, 0, none⟩, c, q1, q2, q3, trivial, sz, xs, h2, fun _ => ⟨g, 0, rfl, q6, q7⟩⟩
  · cases hr
    simp only [Rep] at hu
    obtain ⟨rfl, _⟩ := hu
    exact ⟨none, 0, rfl, Nat.le_refl _, by decide, trivial, 0, [], RepLL.nil 0, fun h => absurd rfl h⟩
  · cases hr
theorem At.part {b o : Nat} {x y z : List Value} (h : At w b o (x ++ y ++ z)) : At w b (o + x.length) y := fun j u hu => by
  rw [Nat.add_assoc]
  refine h _ u ?_
  rw [List.append_assoc, List.getElem?_append_right (by omega), show x.length + j - x.length = j by omega]
  rw [List.getElem?_append_left (List.getElem?_eq_some_iff.1 hu).1]
  exact hu
end
end Go.Proofs.YtaphbajfjmhpnaaDoor
