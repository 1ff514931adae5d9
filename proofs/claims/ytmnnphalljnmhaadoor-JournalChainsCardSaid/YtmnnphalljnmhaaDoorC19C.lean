/-
  Chapter 19, walked: the sums of currencies. Conditions: those that each theorem states.
-/
import Derived.Test.YtmnnphalljnmhaaDoorC19B
import Derived.Test.YtmnnphalljnmhaaDoorGCon
import Derived.Test.YtmnnphalljnmhaaDoorInsMon
namespace Go.Proofs.YtmnnphalljnmhaaDoor
open Go.RowKit
set_option maxRecDepth 100000
set_option linter.unusedSimpArgs false

theorem ltS_trans {a b c : ByteArray} (h1 : ltS a b = true) (h2 : ltS b c = true) : ltS a c = true := by
  unfold ltS at *
  rw [bytesLess_eq, decide_eq_true_eq] at *
  exact List.lt_trans h1 h2
theorem ltS_irrefl (a : ByteArray) : ltS a a = false := by
  unfold ltS
  rw [bytesLess_eq, decide_eq_false_iff_not]
  exact List.lt_irrefl _
theorem ltS_total {a b : ByteArray} (h1 : ltS a b = false) (h2 : a ≠ b) : ltS b a = true := by
  unfold ltS at *
  rw [bytesLess_eq, decide_eq_false_iff_not] at h1
  rw [bytesLess_eq, decide_eq_true_eq]
  refine List.not_le.1 fun h3 => h2 ?_
  exact ByteArray.ext (Array.ext' (List.le_antisymm h3 (List.not_lt.1 h1)))
/-- In order of currencies. -/
def SortM (l : List MonV) : Prop := ∀ (i j : Nat) a b, i < j → l[i]? = some a → l[j]? = some b → ltS a.cur b.cur = true
theorem SortM.mono {l : List MonV} (h : SortM l) (s : ByteArray) : Mono (fun m : MonV => ltS m.cur s) l := fun i j a b hij ha hb hl => ltS_trans (h i j a b hij ha hb) hl
def mI (l : List MonV) (s : ByteArray) : Nat := bsI (fun m : MonV => ltS m.cur s) l
def mB (l : List MonV) (s : ByteArray) : Bool := bsB (fun m : MonV => ltS m.cur s) (fun m => decide (m.cur = s)) l
def addM (l : List MonV) (s : ByteArray) (a : Int) : List MonV :=
  if mB l s = true then l.set (mI l s) ⟨s, IntKind.i64.wrap ((l[mI l s]?.map MonV.amount).getD 0 + a)⟩
  else l.take (mI l s) ++ ⟨s, IntKind.i64.wrap (0 + a)⟩ :: l.drop (mI l s)
def sumsL (l : List LegV) : List MonV := l.foldl (fun o x => addM o x.cur x.amount) []
theorem mI_le (l : List MonV) (s : ByteArray) : mI l s ≤ l.length := by
  unfold mI bsI
  exact (List.takeWhile_sublist _).length_le
theorem bs_lt {α : Type} {lt : α → Bool} : ∀ {l : List α} {k : Nat} {m : α}, k < bsI lt l → l[k]? = some m → lt m = true
  | [], _, _, _, e => by rw [List.getElem?_nil] at e; cases e
  | a :: l, k, m, h, e => by
    unfold bsI at h
    rw [List.takeWhile_cons] at h
    cases ha : lt a with
    | false => rw [ha] at h; simp at h
    | true =>
      rw [ha] at h
      simp at h
      cases k with
      | zero => simp at e; rw [← e]; exact ha
      | succ k => exact bs_lt (l := l) (k := k) (by unfold bsI; omega) (by simpa using e)
theorem bs_stop {α : Type} {lt : α → Bool} : ∀ {l : List α} {m : α}, l[bsI lt l]? = some m → lt m = false
  | [], _, e => by rw [List.getElem?_nil] at e; cases e
  | a :: l, m, e => by
    unfold bsI at e
    rw [List.takeWhile_cons] at e
    cases ha : lt a with
    | false => rw [ha] at e; simp at e; rw [← e]; exact ha
    | true =>
      rw [ha] at e
      simp at e
      exact bs_stop (l := l) (by unfold bsI; exact e)
theorem mB_true {l : List MonV} {s : ByteArray} (h : mB l s = true) : ∃ m, l[mI l s]? = some m ∧ m.cur = s := by
  unfold mB bsB at h
  split at h
  · rename_i m hm
    exact ⟨m, hm, of_decide_eq_true h⟩
  · cases h
theorem mB_false {l : List MonV} {s : ByteArray} (h : mB l s = false) : ∀ m, l[mI l s]? = some m → ltS s m.cur = true := by
  intro m hm
  unfold mB bsB at h
  have hs := bs_stop (lt := fun m : MonV => ltS m.cur s) hm
  have hm' : l[bsI (fun m : MonV => ltS m.cur s) l]? = some m := hm
  rw [hm'] at h
  exact ltS_total hs (of_decide_eq_false h)
theorem addM_sort {l : List MonV} (h : SortM l) (s : ByteArray) (a : Int) : SortM (addM l s a) := by
  unfold addM
  split
  · rename_i hb
    obtain ⟨m, hm, hc⟩ := mB_true hb
    intro i j x y hij hx hy
    have key : ∀ (q : Nat) z, (l.set (mI l s) ⟨s, IntKind.i64.wrap ((l[mI l s]?.map MonV.amount).getD 0 + a)⟩)[q]? = some z → ∃ z', l[q]? = some z' ∧ z'.cur = z.cur := by
      intro q z hz
      rw [List.getElem?_set] at hz
      split at hz
      · rename_i he
        subst he
        split at hz
        · cases hz; exact ⟨m, hm, hc⟩
        · cases hz
      · exact ⟨z, hz, rfl⟩
    obtain ⟨x', hx', ex⟩ := key i x hx
    obtain ⟨y', hy', ey⟩ := key j y hy
    rw [← ex, ← ey]
    exact h i j x' y' hij hx' hy'
  · rename_i hb
    have hb : mB l s = false := by simpa using hb
    have hle := mI_le l s
    have htl : (l.take (mI l s)).length = mI l s := by rw [List.length_take]; omega
    have key : ∀ (q : Nat) z, (l.take (mI l s) ++ ⟨s, IntKind.i64.wrap (0 + a)⟩ :: l.drop (mI l s))[q]? = some z → (q < mI l s ∧ l[q]? = some z) ∨ (q = mI l s ∧ z.cur = s) ∨ (mI l s < q ∧ l[q - 1]? = some z) := by
      intro q z hz
      rcases Nat.lt_trichotomy q (mI l s) with h1 | h1 | h1
      · rw [List.getElem?_append_left (by omega), List.getElem?_take, if_pos h1] at hz
        exact .inl ⟨h1, hz⟩
      · rw [List.getElem?_append_right (by omega), htl, h1, Nat.sub_self] at hz
        simp at hz
        exact .inr (.inl ⟨h1, by rw [← hz]⟩)
      · rw [List.getElem?_append_right (by omega), htl] at hz
        obtain ⟨r, hr⟩ : ∃ r, q - mI l s = r + 1 := ⟨q - mI l s - 1, by omega⟩
        rw [hr, List.getElem?_cons_succ, List.getElem?_drop, show mI l s + r = q - 1 by omega] at hz
        exact .inr (.inr ⟨h1, hz⟩)
    have lo : ∀ (q : Nat) z, q < mI l s → l[q]? = some z → ltS z.cur s = true := fun q z hq hz => bs_lt (lt := fun m : MonV => ltS m.cur s) hq hz
    have up : ∀ (q : Nat) z, mI l s ≤ q → l[q]? = some z → ltS s z.cur = true := by
      intro q z hq hz
      have hlt : mI l s < l.length := by have := (List.getElem?_eq_some_iff.1 hz).1; omega
      have e1 : l[mI l s]? = some l[mI l s] := List.getElem?_eq_getElem hlt
      have h1 := mB_false hb _ e1
      rcases Nat.lt_or_ge (mI l s) q with h2 | h2
      · exact ltS_trans h1 (h _ _ _ _ h2 e1 hz)
      · have : q = mI l s := by omega
        subst this
        rw [e1] at hz
        rw [← Option.some.inj hz]; exact h1
    intro i j x y hij hx hy
    rcases key i x hx with ⟨a1, a2⟩ | ⟨a1, a2⟩ | ⟨a1, a2⟩ <;> rcases key j y hy with ⟨b1, b2⟩ | ⟨b1, b2⟩ | ⟨b1, b2⟩
    · exact h i j x y hij a2 b2
    · rw [b2]; exact lo i x a1 a2
    · exact h i (j - 1) x y (by omega) a2 b2
    · omega
    · omega
    · rw [a2]; exact up (j - 1) y (by omega) b2
    · omega
    · omega
    · exact h (i - 1) (j - 1) x y (by omega) a2 b2
theorem addM_len (l : List MonV) (s : ByteArray) (a : Int) : (addM l s a).length ≤ l.length + 1 := by
  unfold addM
  split
  · rw [List.length_set]; omega
  · have := mI_le l s
    rw [List.length_append, List.length_cons, List.length_take, List.length_drop]; omega
end Go.Proofs.YtmnnphalljnmhaaDoor
