/-
  Chapter 19, plain: what the sums and the net of legs hold: totals. Conditions: those that each theorem states.
-/
import Derived.Test.YtmnnphalljnmhaaDoorC19K
namespace Go.Proofs.YtmnnphalljnmhaaDoor
open Go.RowKit
set_option maxRecDepth 100000
set_option linter.unusedSimpArgs false

abbrev W64 (n : Int) : Int := IntKind.i64.wrap n
theorem W64_eq (n : Int) : W64 n = (n + 9223372036854775808) % 18446744073709551616 - 9223372036854775808 := by
  show IntKind.i64.wrap n = _
  rw [IntKind.wrap_i64]
theorem W64_self {n : Int} (h : In64 n) : W64 n = n := wrap_i64 h.1 h.2
theorem W64_in (n : Int) : In64 (W64 n) := by unfold In64; rw [W64_eq]; omega
theorem W64_l (a b : Int) : W64 (W64 a + b) = W64 (a + b) := by rw [W64_eq, W64_eq a, W64_eq (a + b)]; omega
theorem W64_r (a b : Int) : W64 (a + W64 b) = W64 (a + b) := by rw [W64_eq, W64_eq b, W64_eq (a + b)]; omega
theorem W64_add {a b : Int} (c : Int) (h : W64 a = W64 b) : W64 (a + c) = W64 (b + c) := by rw [W64_eq, W64_eq] at *; omega
theorem W64_neg {a : Int} (h : W64 a = 0) : W64 (-a) = 0 := by rw [W64_eq] at *; omega
theorem ltS_ne {a b : ByteArray} (h : ltS a b = true) : a ≠ b := fun e => by subst e; rw [ltS_irrefl] at h; cases h
theorem cmpL_ne {a b : LegV} (h : cmpL a b < 0) : ¬ cmpL a b = 0 := fun e => by omega

/-! Sums. -/
theorem addM_gt {l : List MonV} {y : ByteArray} (h : SortM l) (hb : mB l y = false) : ∀ (q : Nat) z, mI l y ≤ q → l[q]? = some z → ltS y z.cur = true := by
  intro q z hq hz
  have hlt : mI l y < l.length := by have := (List.getElem?_eq_some_iff.1 hz).1; omega
  have e1 : l[mI l y]? = some l[mI l y] := List.getElem?_eq_getElem hlt
  have h1 := mB_false hb _ e1
  rcases Nat.lt_or_ge (mI l y) q with h2 | h2
  · exact ltS_trans h1 (h _ _ _ _ h2 e1 hz)
  · have : q = mI l y := by omega
    subst this
    rw [e1] at hz
    rw [← Option.some.inj hz]; exact h1
theorem addM_lt {l : List MonV} {y : ByteArray} : ∀ (q : Nat) z, q < mI l y → l[q]? = some z → ltS z.cur y = true := by
  intro q z hq hz
  exact bs_lt (lt := fun m : MonV => ltS m.cur y) hq hz
theorem addM_none {l : List MonV} {y : ByteArray} (h : SortM l) (hb : mB l y = false) : ∀ z ∈ l, ¬ (z.cur = y) := by
  intro z hz
  obtain ⟨q, hq⟩ := List.mem_iff_getElem?.1 hz
  rcases Nat.lt_or_ge q (mI l y) with h1 | h1
  · have h2 := addM_lt q z h1 hq
    exact ltS_ne h2
  · have h2 := addM_gt h hb q z h1 hq
    exact fun e => ltS_ne h2 e.symm

/-! Net. -/
theorem addL_gt {l : List LegV} {y : LegV} (h : SortL l) (hb : lB l y = false) : ∀ (q : Nat) z, lI l y ≤ q → l[q]? = some z → cmpL y z < 0 := by
  intro q z hq hz
  have hlt : lI l y < l.length := by have := (List.getElem?_eq_some_iff.1 hz).1; omega
  have e1 : l[lI l y]? = some l[lI l y] := List.getElem?_eq_getElem hlt
  have h1 := lB_false hb _ e1
  rcases Nat.lt_or_ge (lI l y) q with h2 | h2
  · exact cmpL_trans h1 (h _ _ _ _ h2 e1 hz)
  · have : q = lI l y := by omega
    subst this
    rw [e1] at hz
    rw [← Option.some.inj hz]; exact h1
theorem addL_lt {l : List LegV} {y : LegV} : ∀ (q : Nat) z, q < lI l y → l[q]? = some z → cmpL z y < 0 := by
  intro q z hq hz
  exact of_decide_eq_true (bs_lt (lt := fun m : LegV => decide (cmpL m y < 0)) hq hz)
theorem addL_none {l : List LegV} {y : LegV} (h : SortL l) (hb : lB l y = false) : ∀ z ∈ l, ¬ (z.account = y.account ∧ z.cur = y.cur) := by
  intro z hz
  obtain ⟨q, hq⟩ := List.mem_iff_getElem?.1 hz
  rcases Nat.lt_or_ge q (lI l y) with h1 | h1
  · have h2 := addL_lt q z h1 hq
    exact fun e => cmpL_ne h2 (cmpL_eq.2 e)
  · have h2 := addL_gt h hb q z h1 hq
    exact fun e => cmpL_ne h2 (cmpL_eq.2 ⟨e.1.symm, e.2.symm⟩)

theorem sortM_uniq {l : List MonV} (h : SortM l) {a b : MonV} (ha : a ∈ l) (hb : b ∈ l) (hc : a.cur = b.cur) : a = b := by
  obtain ⟨i, hi⟩ := List.mem_iff_getElem?.1 ha
  obtain ⟨j, hj⟩ := List.mem_iff_getElem?.1 hb
  rcases Nat.lt_trichotomy i j with h1 | h1 | h1
  · exact absurd hc (ltS_ne (h i j a b h1 hi hj))
  · subst h1
    rw [hi] at hj
    exact Option.some.inj hj
  · exact absurd hc.symm (ltS_ne (h j i b a h1 hj hi))
theorem sortL_uniq {l : List LegV} (h : SortL l) {a b : LegV} (ha : a ∈ l) (hb : b ∈ l) (hc : a.account = b.account ∧ a.cur = b.cur) : a = b := by
  obtain ⟨i, hi⟩ := List.mem_iff_getElem?.1 ha
  obtain ⟨j, hj⟩ := List.mem_iff_getElem?.1 hb
  rcases Nat.lt_trichotomy i j with h1 | h1 | h1
  · exact absurd (cmpL_eq.2 hc) (cmpL_ne (h i j a b h1 hi hj))
  · subst h1
    rw [hi] at hj
    exact Option.some.inj hj
  · exact absurd (cmpL_eq.2 ⟨hc.1.symm, hc.2.symm⟩) (cmpL_ne (h j i b a h1 hj hi))

theorem addM_mem {l : List MonV} (h : SortM l) (s : ByteArray) (a : Int) {m : MonV} (hm : m ∈ addM l s a) : (m ∈ l ∧ ¬ (m.cur = s)) ∨ ((m.cur = s) ∧ ((∃ m' ∈ l, (m'.cur = s) ∧ m.amount = W64 (m'.amount + a)) ∨ ((∀ m' ∈ l, ¬ (m'.cur = s)) ∧ m.amount = W64 (0 + a)))) := by
  unfold addM at hm
  split at hm
  · rename_i hb
    obtain ⟨m0, hm0, hc⟩ := mB_true hb
    obtain ⟨q, hq⟩ := List.mem_iff_getElem?.1 hm
    rw [List.getElem?_set] at hq
    have hm1 : m0 ∈ l := List.mem_of_getElem? hm0
    split at hq
    · split at hq
      · cases hq
        refine .inr ⟨rfl, .inl ⟨m0, hm1, hc, ?_⟩⟩
        rw [hm0]; rfl
      · cases hq
    · rename_i hne
      refine .inl ⟨List.mem_of_getElem? hq, fun e => ?_⟩
      rcases Nat.lt_or_ge (mI l s) q with h1 | h1
      · have h2 := h _ _ _ _ h1 hm0 hq
        exact ltS_ne h2 (by rw [hc, e])
      · have h2 := h _ _ _ _ (show q < mI l s by omega) hq hm0
        exact ltS_ne h2 (by rw [hc, e])
  · rename_i hb
    have hb : mB l s = false := by simpa using hb
    rcases List.mem_append.1 hm with hm | hm
    · have h3 := List.mem_of_mem_take hm
      exact .inl ⟨h3, addM_none h hb m h3⟩
    · rcases List.mem_cons.1 hm with hm | hm
      · subst hm
        exact .inr ⟨rfl, .inr ⟨fun m' h' => addM_none h hb m' h', rfl⟩⟩
      · have h3 := List.mem_of_mem_drop hm
        exact .inl ⟨h3, addM_none h hb m h3⟩
theorem addM_keep {l : List MonV} (s : ByteArray) (a : Int) {m : MonV} (hm : m ∈ l) : ∃ m' ∈ addM l s a, m'.cur = m.cur := by
  unfold addM
  split
  · rename_i hb
    obtain ⟨m0, hm0, hc⟩ := mB_true hb
    obtain ⟨q, hq⟩ := List.mem_iff_getElem?.1 hm
    by_cases he : mI l s = q
    · subst he
      rw [hm0] at hq
      cases hq
      have hl := (List.getElem?_eq_some_iff.1 hm0).1
      refine ⟨_, List.mem_set hl _, ?_⟩
      exact hc.symm
    · exact ⟨m, List.mem_iff_getElem?.2 ⟨q, by rw [List.getElem?_set_ne he]; exact hq⟩, rfl⟩
  · refine ⟨m, ?_, rfl⟩
    rw [← List.take_append_drop (mI l s) l] at hm
    rcases List.mem_append.1 hm with hm | hm
    · exact List.mem_append_left _ hm
    · exact List.mem_append_right _ (List.mem_cons_of_mem _ hm)
theorem addM_has (l : List MonV) (s : ByteArray) (a : Int) : ∃ m' ∈ addM l s a, (m'.cur = s) := by
  unfold addM
  split
  · rename_i hb
    obtain ⟨m0, hm0, hc⟩ := mB_true hb
    exact ⟨_, List.mem_set (List.getElem?_eq_some_iff.1 hm0).1 _, rfl⟩
  · exact ⟨_, List.mem_append_right _ List.mem_cons_self, rfl⟩

theorem addL_mem {l : List LegV} (h : SortL l) (x : LegV) {m : LegV} (hm : m ∈ addL l x) : (m ∈ l ∧ ¬ (m.account = x.account ∧ m.cur = x.cur)) ∨ ((m.account = x.account ∧ m.cur = x.cur) ∧ ((∃ m' ∈ l, (m'.account = x.account ∧ m'.cur = x.cur) ∧ m.amount = W64 (m'.amount + x.amount)) ∨ ((∀ m' ∈ l, ¬ (m'.account = x.account ∧ m'.cur = x.cur)) ∧ m.amount = x.amount))) := by
  unfold addL at hm
  split at hm
  · rename_i hb
    obtain ⟨m0, hm0, hc⟩ := lB_true hb
    obtain ⟨q, hq⟩ := List.mem_iff_getElem?.1 hm
    rw [List.getElem?_set] at hq
    have hm1 : m0 ∈ l := List.mem_of_getElem? hm0
    split at hq
    · split at hq
      · cases hq
        refine .inr ⟨⟨rfl, rfl⟩, .inl ⟨m0, hm1, hc, ?_⟩⟩
        rw [hm0]; rfl
      · cases hq
    · rename_i hne
      refine .inl ⟨List.mem_of_getElem? hq, fun e => ?_⟩
      rcases Nat.lt_or_ge (lI l x) q with h1 | h1
      · have h2 := h _ _ _ _ h1 hm0 hq
        exact cmpL_ne h2 (cmpL_eq.2 ⟨by rw [hc.1, e.1], by rw [hc.2, e.2]⟩)
      · have h2 := h _ _ _ _ (show q < lI l x by omega) hq hm0
        exact cmpL_ne h2 (cmpL_eq.2 ⟨by rw [hc.1, e.1], by rw [hc.2, e.2]⟩)
  · rename_i hb
    have hb : lB l x = false := by simpa using hb
    rcases List.mem_append.1 hm with hm | hm
    · have h3 := List.mem_of_mem_take hm
      exact .inl ⟨h3, addL_none h hb m h3⟩
    · rcases List.mem_cons.1 hm with hm | hm
      · subst hm
        exact .inr ⟨⟨rfl, rfl⟩, .inr ⟨fun m' h' => addL_none h hb m' h', rfl⟩⟩
      · have h3 := List.mem_of_mem_drop hm
        exact .inl ⟨h3, addL_none h hb m h3⟩
theorem addL_keep {l : List LegV} (x : LegV) {m : LegV} (hm : m ∈ l) : ∃ m' ∈ addL l x, m'.account = m.account ∧ m'.cur = m.cur := by
  unfold addL
  split
  · rename_i hb
    obtain ⟨m0, hm0, hc⟩ := lB_true hb
    obtain ⟨q, hq⟩ := List.mem_iff_getElem?.1 hm
    by_cases he : lI l x = q
    · subst he
      rw [hm0] at hq
      cases hq
      have hl := (List.getElem?_eq_some_iff.1 hm0).1
      refine ⟨_, List.mem_set hl _, ?_⟩
      exact ⟨hc.1.symm, hc.2.symm⟩
    · exact ⟨m, List.mem_iff_getElem?.2 ⟨q, by rw [List.getElem?_set_ne he]; exact hq⟩, ⟨rfl, rfl⟩⟩
  · refine ⟨m, ?_, ⟨rfl, rfl⟩⟩
    rw [← List.take_append_drop (lI l x) l] at hm
    rcases List.mem_append.1 hm with hm | hm
    · exact List.mem_append_left _ hm
    · exact List.mem_append_right _ (List.mem_cons_of_mem _ hm)
theorem addL_has (l : List LegV) (x : LegV) : ∃ m' ∈ addL l x, (m'.account = x.account ∧ m'.cur = x.cur) := by
  unfold addL
  split
  · rename_i hb
    obtain ⟨m0, hm0, hc⟩ := lB_true hb
    exact ⟨_, List.mem_set (List.getElem?_eq_some_iff.1 hm0).1 _, ⟨rfl, rfl⟩⟩
  · exact ⟨_, List.mem_append_right _ List.mem_cons_self, ⟨rfl, rfl⟩⟩

/-! Totals. -/
def totM : List LegV → ByteArray → Int
  | [], _ => 0
  | x :: l, s => (if x.cur = s then x.amount else 0) + totM l s
def totL : List LegV → Int → ByteArray → Int
  | [], _, _ => 0
  | x :: l, a, s => (if x.account = a ∧ x.cur = s then x.amount else 0) + totL l a s
theorem totM_app (s : ByteArray) : ∀ a b : List LegV, totM (a ++ b) s = totM a s + totM b s
  | [], b => by simp [totM]
  | x :: a, b => by rw [List.cons_append, totM, totM, totM_app s a b]; omega
theorem totL_app (n : Int) (s : ByteArray) : ∀ a b : List LegV, totL (a ++ b) n s = totL a n s + totL b n s
  | [], b => by simp [totL]
  | x :: a, b => by rw [List.cons_append, totL, totL, totL_app n s a b]; omega
theorem totM_none {s : ByteArray} : ∀ {l : List LegV}, (∀ x ∈ l, ¬ x.cur = s) → totM l s = 0
  | [], _ => rfl
  | x :: l, h => by rw [totM, if_neg (h x List.mem_cons_self), totM_none fun y hy => h y (List.mem_cons_of_mem _ hy)]; rfl
theorem totL_none {n : Int} {s : ByteArray} : ∀ {l : List LegV}, (∀ x ∈ l, ¬ (x.account = n ∧ x.cur = s)) → totL l n s = 0
  | [], _ => rfl
  | x :: l, h => by rw [totL, if_neg (h x List.mem_cons_self), totL_none fun y hy => h y (List.mem_cons_of_mem _ hy)]; rfl
structure InvM (p : List LegV) (o : List MonV) : Prop where
  s : SortM o
  a : ∀ m ∈ o, m.amount = W64 (totM p m.cur)
  f : ∀ m ∈ o, ∃ x ∈ p, x.cur = m.cur
  g : ∀ x ∈ p, ∃ m ∈ o, m.cur = x.cur
theorem InvM.step {p : List LegV} {o : List MonV} (h : InvM p o) (x : LegV) : InvM (p ++ [x]) (addM o x.cur x.amount) := by
  refine ⟨addM_sort h.s _ _, fun m hm => ?_, fun m hm => ?_, fun y hy => ?_⟩
  · rw [totM_app]
    rcases addM_mem h.s _ _ hm with ⟨h1, h2⟩ | ⟨h1, ⟨m', h2, h3, h4⟩ | ⟨h2, h3⟩⟩
    · rw [h.a m h1, totM, if_neg (fun e => h2 e.symm)]
      simp [totM]
    · rw [h4, h.a m' h2, W64_l, totM, if_pos h1.symm, h3, h1]
      simp [totM]
    · rw [h3, totM_none (fun y hy e => ?_), totM, if_pos h1.symm]
      · simp [totM]
      · obtain ⟨m', h4, h5⟩ := h.g y hy
        exact h2 m' h4 (by rw [h5, e, h1])
  · rcases addM_mem h.s _ _ hm with ⟨h1, h2⟩ | ⟨h1, -⟩
    · obtain ⟨y, hy, e⟩ := h.f m h1
      exact ⟨y, List.mem_append_left _ hy, e⟩
    · exact ⟨x, List.mem_append_right _ (List.mem_singleton.2 rfl), h1.symm⟩
  · rcases List.mem_append.1 hy with hy | hy
    · obtain ⟨m, h1, h2⟩ := h.g y hy
      obtain ⟨m', h3, h4⟩ := addM_keep x.cur x.amount h1
      exact ⟨m', h3, by rw [h4, h2]⟩
    · cases List.mem_singleton.1 hy
      exact addM_has _ _ _
theorem invM_all : ∀ (l p : List LegV) (o : List MonV), InvM p o → InvM (p ++ l) (l.foldl (fun o x => addM o x.cur x.amount) o)
  | [], p, o, h => by simpa using h
  | x :: l, p, o, h => by
    have := invM_all l (p ++ [x]) _ (h.step x)
    simpa using this
theorem sumsL_inv (l : List LegV) : InvM l (sumsL l) := by
  have := invM_all l [] [] ⟨fun i j a b _ h => (by cases h), fun m h => (by cases h), fun m h => (by cases h), fun m h => (by cases h)⟩
  simpa [sumsL] using this
structure InvL (p : List LegV) (o : List LegV) : Prop where
  s : SortL o
  a : ∀ m ∈ o, m.amount = W64 (totL p m.account m.cur)
  f : ∀ m ∈ o, ∃ x ∈ p, x.account = m.account ∧ x.cur = m.cur
  g : ∀ x ∈ p, ∃ m ∈ o, m.account = x.account ∧ m.cur = x.cur
theorem InvL.step {p o : List LegV} (h : InvL p o) {x : LegV} (hx : In64 x.amount) : InvL (p ++ [x]) (addL o x) := by
  refine ⟨addL_sort h.s _, fun m hm => ?_, fun m hm => ?_, fun y hy => ?_⟩
  · rw [totL_app]
    rcases addL_mem h.s _ hm with ⟨h1, h2⟩ | ⟨h1, ⟨m', h2, h3, h4⟩ | ⟨h2, h3⟩⟩
    · rw [h.a m h1, totL, if_neg (fun e => h2 ⟨e.1.symm, e.2.symm⟩)]
      simp [totL]
    · rw [h4, h.a m' h2, W64_l, totL, if_pos ⟨h1.1.symm, h1.2.symm⟩, h3.1, h3.2, h1.1, h1.2]
      simp [totL]
    · rw [h3, totL_none (fun y hy e => ?_), totL, if_pos ⟨h1.1.symm, h1.2.symm⟩]
      · simp [totL, W64_self hx]
      · obtain ⟨m', h4, h5⟩ := h.g y hy
        exact h2 m' h4 ⟨by rw [h5.1, e.1, h1.1], by rw [h5.2, e.2, h1.2]⟩
  · rcases addL_mem h.s _ hm with ⟨h1, h2⟩ | ⟨h1, -⟩
    · obtain ⟨y, hy, e⟩ := h.f m h1
      exact ⟨y, List.mem_append_left _ hy, e⟩
    · exact ⟨x, List.mem_append_right _ (List.mem_singleton.2 rfl), h1.1.symm, h1.2.symm⟩
  · rcases List.mem_append.1 hy with hy | hy
    · obtain ⟨m, h1, h2⟩ := h.g y hy
      obtain ⟨m', h3, h4⟩ := addL_keep x h1
      exact ⟨m', h3, by rw [h4.1, h2.1], by rw [h4.2, h2.2]⟩
    · cases List.mem_singleton.1 hy
      exact addL_has _ _
theorem invL_all : ∀ (l p : List LegV) (o : List LegV), (∀ x ∈ l, In64 x.amount) → InvL p o → InvL (p ++ l) (l.foldl addL o)
  | [], p, o, _, h => by simpa using h
  | x :: l, p, o, hw, h => by
    have := invL_all l (p ++ [x]) _ (fun y hy => hw y (List.mem_cons_of_mem _ hy)) (h.step (hw x List.mem_cons_self))
    simpa using this
theorem collL_inv {l : List LegV} (hw : ∀ x ∈ l, In64 x.amount) : InvL l (collL l) := by
  have := invL_all l [] [] hw ⟨fun i j a b _ h => (by cases h), fun m h => (by cases h), fun m h => (by cases h), fun m h => (by cases h)⟩
  simpa [collL] using this
/-! The totals of a net. -/
theorem totM_set (s : ByteArray) : ∀ {l : List LegV} {i : Nat} {m : LegV} (y : LegV), l[i]? = some m → totM (l.set i y) s = totM l s - (if m.cur = s then m.amount else 0) + (if y.cur = s then y.amount else 0)
  | [], _, _, _, e => by cases e
  | a :: l, 0, m, y, e => by
    cases e
    rw [List.set_cons_zero, totM, totM]; omega
  | a :: l, i + 1, m, y, e => by
    rw [List.set_cons_succ, totM, totM, totM_set s y (show l[i]? = some m from e)]; omega
theorem totM_ins (s : ByteArray) (l : List LegV) (i : Nat) (y : LegV) : totM (l.take i ++ y :: l.drop i) s = totM l s + (if y.cur = s then y.amount else 0) := by
  rw [totM_app, totM]
  have : totM l s = totM (l.take i) s + totM (l.drop i) s := by rw [← totM_app, List.take_append_drop]
  omega
theorem totM_add (s : ByteArray) (o : List LegV) (x : LegV) : W64 (totM (addL o x) s) = W64 (totM o s + (if x.cur = s then x.amount else 0)) := by
  unfold addL
  split
  · rename_i hb
    obtain ⟨m0, hm0, hc⟩ := lB_true hb
    rw [totM_set s _ hm0, hm0, hc.2]
    by_cases h : x.cur = s
    · simp only [if_pos h, Option.map_some, Option.getD_some]
      have e := W64_r (totM o s - m0.amount) (m0.amount + x.amount)
      rw [show totM o s - m0.amount + (m0.amount + x.amount) = totM o s + x.amount by omega] at e
      exact e
    · simp only [if_neg h]
      congr 1; omega
  · rw [totM_ins]
theorem totM_coll (s : ByteArray) : ∀ (l o : List LegV), W64 (totM (l.foldl addL o) s) = W64 (totM o s + totM l s)
  | [], o => by simp [totM]
  | x :: l, o => by
    rw [List.foldl_cons, totM_coll s l, W64_add (totM l s) (totM_add s o x), totM]
    congr 1; omega
theorem totM_filt (s : ByteArray) : ∀ (l : List LegV), totM (l.filter nzL) s = totM l s
  | [] => rfl
  | x :: l => by
    rw [List.filter_cons]
    split
    · rw [totM, totM, totM_filt s l]
    · rename_i h
      have h0 : x.amount = 0 := by simpa [nzL] using h
      rw [totM, totM_filt s l, h0]; simp
theorem totM_net (s : ByteArray) (l : List LegV) : W64 (totM (netL l) s) = W64 (totM l s) := by
  unfold netL
  rw [totM_filt]
  have := totM_coll s l []
  simpa [collL, totM] using this
/-! The net of a net. -/
theorem SortL.filt {l : List LegV} (h : SortL l) (p : LegV → Bool) : SortL (l.filter p) := by
  have h1 : l.Pairwise fun a b => cmpL a b < 0 := List.pairwise_iff_getElem.2 fun i j hi hj hij => h i j _ _ hij (List.getElem?_eq_getElem hi) (List.getElem?_eq_getElem hj)
  have h2 := h1.filter p
  intro i j a b hij ha hb
  obtain ⟨hi, rfl⟩ := List.getElem?_eq_some_iff.1 ha
  obtain ⟨hj, rfl⟩ := List.getElem?_eq_some_iff.1 hb
  exact List.pairwise_iff_getElem.1 h2 i j hi hj hij
theorem addL_end {o : List LegV} {x : LegV} (h : ∀ z ∈ o, cmpL z x < 0) : addL o x = o ++ [x] := by
  have hI : lI o x = o.length := by
    rcases Nat.lt_or_ge (lI o x) o.length with h1 | h1
    · have e := bs_stop (lt := fun m : LegV => decide (cmpL m x < 0)) (show o[bsI (fun m : LegV => decide (cmpL m x < 0)) o]? = some (o[lI o x]'h1) from List.getElem?_eq_getElem h1)
      exact absurd (h _ (List.getElem_mem h1)) (of_decide_eq_false e)
    · exact Nat.le_antisymm (lI_le o x) h1
  have hB : lB o x = false := lB_end hI (Nat.le_refl _)
  unfold addL
  rw [if_neg (by rw [hB]; simp), hI, List.take_length, List.drop_length]
theorem coll_sorted {n : List LegV} (h : SortL n) : ∀ k, k ≤ n.length → collL (n.take k) = n.take k
  | 0, _ => rfl
  | k + 1, hk => by
    have e : n[k]? = some n[k] := List.getElem?_eq_getElem (by omega)
    rw [coll_step e, coll_sorted h k (by omega), addL_end, List.take_add_one, e]
    · rfl
    · intro z hz
      obtain ⟨i, hi⟩ := List.mem_iff_getElem?.1 hz
      rw [List.getElem?_take] at hi
      split at hi
      · rename_i h1; exact h i k _ _ h1 hi e
      · cases hi
theorem net_sort (l : List LegV) : SortL (netL l) := (collL_sort l).filt nzL
theorem net_nz {l : List LegV} {x : LegV} (h : x ∈ netL l) : ¬ x.amount = 0 := by
  have := (List.mem_filter.1 h).2
  simpa [nzL] using this
theorem net_net (l : List LegV) : netL (netL l) = netL l := by
  have h := coll_sorted (net_sort l) _ (Nat.le_refl _)
  rw [List.take_length] at h
  show (collL (netL l)).filter nzL = netL l
  rw [h, List.filter_eq_self]
  intro x hx
  have := net_nz hx
  simp [nzL, this]
theorem net_from {l : List LegV} (hw : ∀ x ∈ l, In64 x.amount) {x : LegV} (h : x ∈ netL l) : In64 x.amount ∧ ∃ y ∈ l, y.account = x.account ∧ y.cur = x.cur := by
  have h1 := (List.mem_filter.1 h).1
  have hI := collL_inv hw
  exact ⟨by rw [hI.a x h1]; exact W64_in _, hI.f x h1⟩
/-! Joining changes no sum. -/
def hasC (n : List LegV) (m : MonV) : Bool := n.any fun x => decide (x.cur = m.cur)
theorem SortM.filt {l : List MonV} (h : SortM l) (p : MonV → Bool) : SortM (l.filter p) := by
  have h1 : l.Pairwise fun a b => ltS a.cur b.cur = true := List.pairwise_iff_getElem.2 fun i j hi hj hij => h i j _ _ hij (List.getElem?_eq_getElem hi) (List.getElem?_eq_getElem hj)
  have h2 := h1.filter p
  intro i j a b hij ha hb
  obtain ⟨hi, rfl⟩ := List.getElem?_eq_some_iff.1 ha
  obtain ⟨hj, rfl⟩ := List.getElem?_eq_some_iff.1 hb
  exact List.pairwise_iff_getElem.1 h2 i j hi hj hij
theorem SortM.tail {a : MonV} {l : List MonV} (h : SortM (a :: l)) : SortM l := fun i j x y hij hx hy => h (i + 1) (j + 1) x y (by omega) hx hy
theorem SortM.head {a : MonV} {l : List MonV} (h : SortM (a :: l)) {x : MonV} (hx : x ∈ l) : ltS a.cur x.cur = true := by
  obtain ⟨i, hi⟩ := List.mem_iff_getElem?.1 hx
  exact h 0 (i + 1) a x (by omega) rfl hi
theorem sortM_ext : ∀ {a b : List MonV}, SortM a → SortM b → (∀ m, m ∈ a ↔ m ∈ b) → a = b
  | [], [], _, _, _ => rfl
  | [], y :: b, _, _, h => by have := (h y).2 List.mem_cons_self; cases this
  | x :: a, [], _, _, h => by have := (h x).1 List.mem_cons_self; cases this
  | x :: a, y :: b, ha, hb, h => by
    have hxy : x = y := by
      rcases List.mem_cons.1 ((h x).1 List.mem_cons_self) with e | e
      · exact e
      · rcases List.mem_cons.1 ((h y).2 List.mem_cons_self) with e2 | e2
        · exact e2.symm
        · exact absurd rfl (ltS_ne (ltS_trans (ha.head e2) (hb.head e)))
    subst hxy
    congr 1
    refine sortM_ext ha.tail hb.tail fun m => ⟨fun hm => ?_, fun hm => ?_⟩
    · rcases List.mem_cons.1 ((h m).1 (List.mem_cons_of_mem _ hm)) with e | e
      · subst e; exact absurd rfl (ltS_ne (ha.head hm))
      · exact e
    · rcases List.mem_cons.1 ((h m).2 (List.mem_cons_of_mem _ hm)) with e | e
      · subst e; exact absurd rfl (ltS_ne (hb.head hm))
      · exact e
theorem hasC_iff {n : List LegV} {m : MonV} : hasC n m = true ↔ ∃ x ∈ n, x.cur = m.cur := by
  unfold hasC
  rw [List.any_eq_true]
  exact ⟨fun ⟨x, h1, h2⟩ => ⟨x, h1, of_decide_eq_true h2⟩, fun ⟨x, h1, h2⟩ => ⟨x, h1, decide_eq_true h2⟩⟩
theorem mon_eta {a b : MonV} (h1 : a.cur = b.cur) (h2 : a.amount = b.amount) : a = b := by
  cases a; cases b
  simp only at h1 h2
  rw [h1, h2]
theorem sums_net {l : List LegV} (hw : ∀ x ∈ l, In64 x.amount) : sumsL (netL l) = (sumsL l).filter (hasC (netL l)) := by
  have hn := sumsL_inv (netL l)
  have hl := sumsL_inv l
  refine sortM_ext hn.s (hl.s.filt _) fun m => ?_
  rw [List.mem_filter, hasC_iff]
  constructor
  · intro hm
    obtain ⟨x, hx, e⟩ := hn.f m hm
    refine ⟨?_, x, hx, e⟩
    obtain ⟨-, y, hy, -, e2⟩ := net_from hw hx
    obtain ⟨m', h1, h2⟩ := hl.g y hy
    have h3 : m' = m := mon_eta (by rw [h2, e2, e]) (by rw [hl.a m' h1, hn.a m hm, totM_net, h2, e2, e])
    rw [← h3]; exact h1
  · rintro ⟨hm, x, hx, e⟩
    obtain ⟨m', h1, h2⟩ := hn.g x hx
    have h3 : m' = m := mon_eta (by rw [h2, e]) (by rw [hl.a m hm, hn.a m' h1, totM_net, h2, e])
    rw [← h3]; exact h1
theorem sums_out {l : List LegV} {m : MonV} (hm : m ∈ sumsL l) (h : hasC (netL l) m = false) : m.amount = 0 := by
  rw [(sumsL_inv l).a m hm, ← totM_net, totM_none]
  · decide
  · intro x hx e
    have : hasC (netL l) m = true := hasC_iff.2 ⟨x, hx, e⟩
    rw [h] at this; cases this
end Go.Proofs.YtmnnphalljnmhaaDoor
