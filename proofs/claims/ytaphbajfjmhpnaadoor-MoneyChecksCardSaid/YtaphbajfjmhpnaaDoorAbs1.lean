/-
  Values without memory: what a slot of a frame stands for, what code does to it, and when such a value stands for a value of the machine. Conditions: none.
-/
import Derived.Test.YtaphbajfjmhpnaaDoorLib
namespace Go.Proofs.YtaphbajfjmhpnaaDoor
open Go.RowKit
set_option maxRecDepth 100000

/-- What a slot stands for: an exact value; a struct's cells; several results; a slice that is read; an address in such a slice's element; a slice or a box of the call's own, by name; an address in it; anything; what an operation left that was passed over; a boolean that says that a slice is nil; a function with what it has captured. -/
inductive AV where
  | ex (v : Value)
  | agg (cs : List AV)
  | tup (vs : List AV)
  | sl (es : List (List AV))
  | rp (cs : List AV) (off : Nat)
  | own (b : Nat)
  | pt (b k off : Nat)
  | junk
  | und
  | nq (es : List (List AV))
  | fn (f : Nat) (caps : List AV)
  deriving Inhabited

/-- A row of the call's own. -/
structure Row1 where
  ty : TypeId
  es : List (List AV)
  mu : Bool

abbrev Phi := Nat → Option (Value × Nat)
def phi0 : Phi := fun _ => none
def blkOf : Value → Nat
  | .slice (some a) _ _ => a.block
  | _ => 0

mutual
/-- The value stands for this in the world; blocks of M may still be written. -/
def Rep (φ : Phi) (M : Nat → Prop) (w : World) : AV → Value → Prop
  | .ex x, v => v = x ∧ x.oneCell' = true
  | .agg cs, v => ∃ vs : List Value, v = .agg vs.toArray ∧ (∀ u ∈ vs, u.oneCell' = true) ∧ RepL φ M w cs vs
  | .tup cs, v => ∃ vs : List Value, v = .tuple vs.toArray ∧ RepL φ M w cs vs
  | .sl es, v => ∃ A c, v = .slice A es.length c ∧ es.length ≤ c ∧ c ≤ maxLen ∧ True ∧
      (es ≠ [] → ∃ b o sz vs, A = some ⟨b, o, none⟩ ∧ ¬ M b ∧ b < w.heap.size ∧ At w b o vs ∧ RepLL phi0 M w sz es vs)
  | .rp cs off, v => ∃ b o vs, v = .pointer (some ⟨b, o + off, none⟩) ∧ ¬ M b ∧ b < w.heap.size ∧ At w b o vs ∧ (∀ u ∈ vs, u.oneCell' = true) ∧ RepL phi0 M w cs vs
  | .own b, v => ∃ sz, φ b = some (v, sz)
  | .pt b k off, v => ∃ h sz, φ b = some (h, sz) ∧ v = .pointer (some ⟨blkOf h, k * sz + off, none⟩)
  | .junk, _ => True
  | .und, v => v = undef
  | .nq es, v => ∃ b, v = .bool b ∧ (b = true → es = [])
  | .fn f caps, v => ∃ vs : List Value, v = .func (.func f) #[] vs.toArray ∧ RepL φ M w caps vs
def RepL (φ : Phi) (M : Nat → Prop) (w : World) : List AV → List Value → Prop
  | [], vs => vs = []
  | u :: us, vs => ∃ v vs', vs = v :: vs' ∧ Rep φ M w u v ∧ RepL φ M w us vs'
def RepLL (φ : Phi) (M : Nat → Prop) (w : World) (sz : Nat) : List (List AV) → List Value → Prop
  | [], vs => vs = []
  | e :: es, vs => ∃ x y, vs = x ++ y ∧ x.length = sz ∧ (∀ u ∈ x, u.oneCell' = true) ∧ RepL φ M w e x ∧ RepLL φ M w sz es y
end

/-- What the first world's blocks outside M held, the second's outside M' hold. -/
def Keep (M M' : Nat → Prop) (w w' : World) : Prop := ∀ b, b < w.heap.size → ¬ M b → ¬ M' b ∧ b < w'.heap.size ∧ w'.heap[b]? = w.heap[b]?
def Ext (φ φ' : Phi) : Prop := ∀ i x, φ i = some x → φ' i = some x
theorem Ext.refl (φ : Phi) : Ext φ φ := fun _ _ h => h
theorem Ext.trans {a b c : Phi} (h : Ext a b) (k : Ext b c) : Ext a c := fun i x e => k i x (h i x e)
theorem ext0 (φ : Phi) : Ext phi0 φ := fun _ _ h => by cases h
theorem Keep.refl (M : Nat → Prop) (w : World) : Keep M M w w := fun _ h k => ⟨k, h, rfl⟩
theorem Keep.at_ {M M' : Nat → Prop} {w w' : World} (h : Keep M M' w w') {b o : Nat} {vs : List Value} (hb : b < w.heap.size) (hM : ¬ M b) (ha : At w b o vs) : At w' b o vs :=
  fun j u hu => (World.cell?_of_block (w := w) (a := ⟨b, o + j, none⟩) (h b hb hM).2.2).trans (ha j u hu)

mutual
theorem Rep.keep {φ φ' : Phi} {M M' : Nat → Prop} {w w' : World} (hk : Keep M M' w w') (he : Ext φ φ') : ∀ (u : AV) (v : Value), Rep φ M w u v → Rep φ' M' w' u v
  | .ex _, _, h => by simp only [Rep] at h ⊢; exact h
  | .agg cs, _, h => by
    simp only [Rep] at h ⊢
    obtain ⟨vs, h1, h2, h3⟩ := h
    exact ⟨vs, h1, h2, RepL.keep hk he cs vs h3⟩
  | .tup cs, _, h => by
    simp only [Rep] at h ⊢
    obtain ⟨vs, h1, h3⟩ := h
    exact ⟨vs, h1, RepL.keep hk he cs vs h3⟩
  | .sl es, _, h => by
    simp only [Rep] at h ⊢
    obtain ⟨A, c, h1, h2, h3, h4, h5⟩ := h
    refine ⟨A, c, h1, h2, h3, h4, fun hn => ?_⟩
    obtain ⟨b, o, sz, vs, g1, g2, g3, g4, g5⟩ := h5 hn
    exact ⟨b, o, sz, vs, g1, (hk b g3 g2).1, (hk b g3 g2).2.1, hk.at_ g3 g2 g4, RepLL.keep hk (Ext.refl phi0) sz es vs g5⟩
  | .rp cs off, _, h => by
    simp only [Rep] at h ⊢
    obtain ⟨b, o, vs, g1, g2, g3, g4, g5, g6⟩ := h
    exact ⟨b, o, vs, g1, (hk b g3 g2).1, (hk b g3 g2).2.1, hk.at_ g3 g2 g4, g5, RepL.keep hk (Ext.refl phi0) cs vs g6⟩
  | .own b, _, h => by
    simp only [Rep] at h ⊢
    obtain ⟨sz, h⟩ := h
    exact ⟨sz, he _ _ h⟩
  | .pt b k off, _, h => by
    simp only [Rep] at h ⊢
    obtain ⟨x, sz, h, h2⟩ := h
    exact ⟨x, sz, he _ _ h, h2⟩
  | .junk, _, _ => by simp only [Rep]
  | .und, _, h => by simp only [Rep] at h ⊢; exact h
  | .nq _, _, h => by simp only [Rep] at h ⊢; exact h
  | .fn _ caps, _, h => by
    simp only [Rep] at h ⊢
    obtain ⟨vs, h1, h3⟩ := h
    exact ⟨vs, h1, RepL.keep hk he caps vs h3⟩
theorem RepL.keep {φ φ' : Phi} {M M' : Nat → Prop} {w w' : World} (hk : Keep M M' w w') (he : Ext φ φ') : ∀ (us : List AV) (vs : List Value), RepL φ M w us vs → RepL φ' M' w' us vs
  | [], _, h => by simp only [RepL] at h ⊢; exact h
  | u :: us, _, h => by
    simp only [RepL] at h ⊢
    obtain ⟨v, vs', h1, h2, h3⟩ := h
    exact ⟨v, vs', h1, Rep.keep hk he u v h2, RepL.keep hk he us vs' h3⟩
theorem RepLL.keep {φ φ' : Phi} {M M' : Nat → Prop} {w w' : World} (hk : Keep M M' w w') (he : Ext φ φ') (sz : Nat) : ∀ (es : List (List AV)) (vs : List Value), RepLL φ M w sz es vs → RepLL φ' M' w' sz es vs
  | [], _, h => by simp only [RepLL] at h ⊢; exact h
  | e :: es, _, h => by
    simp only [RepLL] at h ⊢
    obtain ⟨x, y, h1, h2, h3, h4, h5⟩ := h
    exact ⟨x, y, h1, h2, h3, RepL.keep hk he e x h4, RepLL.keep hk he sz es y h5⟩
end

section
variable {φ φ' : Phi} {M M' : Nat → Prop} {w w' : World}
theorem RepL.nil : RepL φ M w [] [] := by simp only [RepL]
theorem RepL.cons {u : AV} {us : List AV} {v : Value} {vs : List Value} (h : Rep φ M w u v) (k : RepL φ M w us vs) : RepL φ M w (u :: us) (v :: vs) := by
  simp only [RepL]; exact ⟨v, vs, rfl, h, k⟩
theorem RepL.len : ∀ {us : List AV} {vs : List Value}, RepL φ M w us vs → vs.length = us.length
  | [], _, h => by simp only [RepL] at h; rw [h]; rfl
  | u :: us, _, h => by
    simp only [RepL] at h
    obtain ⟨v, vs', rfl, _, h3⟩ := h
    rw [List.length_cons, List.length_cons, RepL.len h3]
theorem RepL.get : ∀ {us : List AV} {vs : List Value} {j : Nat} {u : AV}, RepL φ M w us vs → us[j]? = some u → ∃ v, vs[j]? = some v ∧ Rep φ M w u v
  | [], _, _, _, _, hj => by simp at hj
  | x :: us, _, 0, u, h, hj => by
    simp only [RepL] at h
    obtain ⟨v, vs', rfl, h2, _⟩ := h
    simp at hj
    subst hj
    exact ⟨v, by simp, h2⟩
  | x :: us, _, j + 1, u, h, hj => by
    simp only [RepL] at h
    obtain ⟨v, vs', rfl, _, h3⟩ := h
    simp at hj
    obtain ⟨q, h4, h5⟩ := RepL.get h3 hj
    exact ⟨q, by simpa using h4, h5⟩
theorem RepL.app : ∀ {us us' : List AV} {vs vs' : List Value}, RepL φ M w us vs → RepL φ M w us' vs' → RepL φ M w (us ++ us') (vs ++ vs')
  | [], _, _, _, h, k => by simp only [RepL] at h; subst h; simpa using k
  | x :: us, _, _, _, h, k => by
    simp only [RepL] at h
    obtain ⟨v, vs', rfl, h2, h3⟩ := h
    simpa using RepL.cons h2 (RepL.app h3 k)
theorem RepL.take : ∀ (n : Nat) {us : List AV} {vs : List Value}, RepL φ M w us vs → RepL φ M w (us.take n) (vs.take n)
  | 0, _, _, _ => by simp only [List.take_zero, RepL]
  | n + 1, [], _, h => by simp only [RepL] at h; subst h; simp only [List.take_nil, RepL]
  | n + 1, x :: us, _, h => by
    simp only [RepL] at h
    obtain ⟨v, vs', rfl, h2, h3⟩ := h
    simpa using RepL.cons h2 (RepL.take n h3)
theorem RepL.drop : ∀ (n : Nat) {us : List AV} {vs : List Value}, RepL φ M w us vs → RepL φ M w (us.drop n) (vs.drop n)
  | 0, _, _, h => by simpa using h
  | n + 1, [], _, h => by simp only [RepL] at h; subst h; simp only [List.drop_nil, RepL]
  | n + 1, x :: us, _, h => by
    simp only [RepL] at h
    obtain ⟨v, vs', rfl, _, h3⟩ := h
    simpa using RepL.drop n h3
theorem RepLL.nil (sz : Nat) : RepLL φ M w sz [] [] := by simp only [RepLL]
theorem RepLL.cons {sz : Nat} {e : List AV} {es : List (List AV)} {x y : List Value} (hl : x.length = sz) (h1 : ∀ u ∈ x, u.oneCell' = true) (h : RepL φ M w e x) (k : RepLL φ M w sz es y) : RepLL φ M w sz (e :: es) (x ++ y) := by
  simp only [RepLL]; exact ⟨x, y, rfl, hl, h1, h, k⟩
theorem RepLL.one {e : List AV} {x : List Value} (h1 : ∀ u ∈ x, u.oneCell' = true) (h : RepL φ M w e x) : RepLL φ M w x.length [e] x := by
  simpa using RepLL.cons rfl h1 h (RepLL.nil x.length)
theorem RepLL.app {sz : Nat} : ∀ {es es' : List (List AV)} {x y : List Value}, RepLL φ M w sz es x → RepLL φ M w sz es' y → RepLL φ M w sz (es ++ es') (x ++ y)
  | [], _, _, _, h, k => by simp only [RepLL] at h; subst h; simpa using k
  | e :: es, _, _, _, h, k => by
    simp only [RepLL] at h
    obtain ⟨a, b, rfl, h2, h3, h4, h5⟩ := h
    rw [List.append_assoc]
    exact RepLL.cons h2 h3 h4 (RepLL.app h5 k)
theorem RepLL.len {sz : Nat} : ∀ {es : List (List AV)} {x : List Value}, RepLL φ M w sz es x → x.length = es.length * sz
  | [], _, h => by simp only [RepLL] at h; subst h; simp
  | e :: es, _, h => by
    simp only [RepLL] at h
    obtain ⟨a, b, rfl, h2, _, _, h5⟩ := h
    rw [List.length_append, RepLL.len h5, h2, List.length_cons, Nat.add_mul, Nat.one_mul, Nat.add_comm]
theorem RepLL.ones {sz : Nat} : ∀ {es : List (List AV)} {x : List Value}, RepLL φ M w sz es x → ∀ u ∈ x, u.oneCell' = true
  | [], _, h => by simp only [RepLL] at h; subst h; simp
  | e :: es, _, h => by
    simp only [RepLL] at h
    obtain ⟨a, b, rfl, _, h3, _, h5⟩ := h
    intro u hu
    rcases List.mem_append.1 hu with hu | hu
    · exact h3 u hu
    · exact RepLL.ones h5 u hu
theorem RepLL.get {sz : Nat} : ∀ {es : List (List AV)} {x : List Value} {k : Nat} {e : List AV}, RepLL φ M w sz es x → es[k]? = some e →
    ∃ a b c, x = a ++ b ++ c ∧ a.length = k * sz ∧ b.length = sz ∧ (∀ u ∈ b, u.oneCell' = true) ∧ RepL φ M w e b ∧ RepLL φ M w sz (es.take k) a ∧ RepLL φ M w sz (es.drop (k + 1)) c
  | [], _, _, _, _, hk => by simp at hk
  | e :: es, _, 0, e', h, hk => by
    simp only [RepLL] at h
    obtain ⟨a, b, rfl, h2, h3, h4, h5⟩ := h
    simp at hk
    subst hk
    exact ⟨[], a, b, by simp, by simp, h2, h3, h4, by simp only [List.take_zero, RepLL], by simpa using h5⟩
  | e :: es, _, k + 1, e', h, hk => by
    simp only [RepLL] at h
    obtain ⟨a, b, rfl, h2, h3, h4, h5⟩ := h
    simp at hk
    obtain ⟨p, q, r, g1, g2, g3, g4, g5, g6, g7⟩ := RepLL.get h5 hk
    exact ⟨a ++ p, q, r, by rw [g1]; simp, by rw [List.length_append, h2, g2, Nat.add_mul, Nat.one_mul, Nat.add_comm], g3, g4, g5, by simpa using RepLL.cons h2 h3 h4 g6, by simpa using g7⟩
theorem RepLL.take {sz : Nat} : ∀ (k : Nat) {es : List (List AV)} {x : List Value}, RepLL φ M w sz es x → RepLL φ M w sz (es.take k) (x.take (k * sz))
  | 0, _, _, _ => by simp only [List.take_zero, Nat.zero_mul, RepLL]
  | k + 1, [], _, h => by simp only [RepLL] at h; subst h; simp only [List.take_nil, RepLL]
  | k + 1, e :: es, _, h => by
    simp only [RepLL] at h
    obtain ⟨a, b, rfl, h2, h3, h4, h5⟩ := h
    have : (a ++ b).take ((k + 1) * sz) = a ++ b.take (k * sz) := by
      rw [Nat.add_mul, Nat.one_mul, Nat.add_comm, ← h2, List.take_length_add_append]
    rw [this, List.take_succ_cons]
    exact RepLL.cons h2 h3 h4 (RepLL.take k h5)
theorem RepLL.drop {sz : Nat} : ∀ (k : Nat) {es : List (List AV)} {x : List Value}, RepLL φ M w sz es x → RepLL φ M w sz (es.drop k) (x.drop (k * sz))
  | 0, _, _, h => by simpa using h
  | k + 1, [], _, h => by simp only [RepLL] at h; subst h; simp only [List.drop_nil, RepLL]
  | k + 1, e :: es, _, h => by
    simp only [RepLL] at h
    obtain ⟨a, b, rfl, h2, h3, h4, h5⟩ := h
    have : (a ++ b).drop ((k + 1) * sz) = b.drop (k * sz) := by
      rw [Nat.add_mul, Nat.one_mul, Nat.add_comm, ← h2, List.drop_length_add_append]
    rw [this, List.drop_succ_cons]
    exact RepLL.drop k h5
end

/-- The cells of a value that may be stored. -/
def AV.cells : AV → Option (List AV)
  | .agg cs => some cs
  | .tup _ => none
  | .junk => none
  | .und => none
  | .nq _ => none
  | u => some [u]
theorem rep_cells {φ : Phi} {M : Nat → Prop} {w : World} {u : AV} {v : Value} {cs : List AV} (h : Rep φ M w u v) (hc : u.cells = some cs) (hφ : ∀ b x, φ b = some x → x.1.oneCell' = true) :
    RepL φ M w cs v.cells.toList ∧ ∀ x ∈ v.cells.toList, x.oneCell' = true := by
  have one : ∀ (u : AV) (v : Value), Rep φ M w u v → v.oneCell' = true → v.cells = #[v] → RepL φ M w [u] v.cells.toList ∧ ∀ x ∈ v.cells.toList, x.oneCell' = true := by
    intro u v h1 h2 h3
    rw [h3]
    exact ⟨RepL.cons h1 RepL.nil, by simpa using h2⟩
  have cell : ∀ v : Value, v.oneCell' = true → v.cells = #[v] := by
    intro v hv
    cases v <;> simp [Value.oneCell', Value.cells] at hv ⊢
  cases u with
  | agg cs' =>
    simp only [AV.cells, Option.some.injEq] at hc
    subst hc
    simp only [Rep] at h
    obtain ⟨vs, rfl, h2, h3⟩ := h
    simpa [Value.cells] using ⟨h3, h2⟩
  | tup _ => cases hc
  | junk => cases hc
  | und => cases hc
  | nq _ => cases hc
  | ex x =>
    simp only [AV.cells, Option.some.injEq] at hc
    subst hc
    have h' := h
    simp only [Rep] at h'
    exact one _ _ h (by rw [h'.1]; exact h'.2) (cell _ (by rw [h'.1]; exact h'.2))
  | sl es =>
    simp only [AV.cells, Option.some.injEq] at hc
    subst hc
    have h' := h
    simp only [Rep] at h'
    obtain ⟨A, c, rfl, _⟩ := h'
    exact one _ _ h rfl rfl
  | rp a b =>
    simp only [AV.cells, Option.some.injEq] at hc
    subst hc
    have h' := h
    simp only [Rep] at h'
    obtain ⟨_, _, _, rfl, _⟩ := h'
    exact one _ _ h rfl rfl
  | own b =>
    simp only [AV.cells, Option.some.injEq] at hc
    subst hc
    have h' := h
    simp only [Rep] at h'
    obtain ⟨sz, h'⟩ := h'
    have := hφ _ _ h'
    exact one _ _ h this (cell _ this)
  | fn f caps =>
    simp only [AV.cells, Option.some.injEq] at hc
    subst hc
    have h' := h
    simp only [Rep] at h'
    obtain ⟨vs, rfl, _⟩ := h'
    exact one _ _ h rfl rfl
  | pt b k off =>
    simp only [AV.cells, Option.some.injEq] at hc
    subst hc
    have h' := h
    simp only [Rep] at h'
    obtain ⟨_, _, _, rfl⟩ := h'
    exact one _ _ h rfl rfl
end Go.Proofs.YtaphbajfjmhpnaaDoor
