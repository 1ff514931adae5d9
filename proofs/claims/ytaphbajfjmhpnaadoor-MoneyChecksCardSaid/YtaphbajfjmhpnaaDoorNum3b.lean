/-
  Amounts, read: what a scan of the bytes shows; sums. Conditions: those that each theorem states (no program in it).
-/
import Derived.Test.YtaphbajfjmhpnaaDoorNum3
namespace Go.Proofs.YtaphbajfjmhpnaaDoor
open Go.RowKit
set_option maxRecDepth 100000

/-- The byte at an index is as it must be. -/
def okAt (W j : Nat) (c : UInt8) : Prop := if j = W then c.toNat = 46 else isD c = true
def goodT (T : List UInt8) (W : Nat) : Prop := 1 ≤ W ∧ ¬ (T[0]? = some 48 ∧ 1 < W) ∧ ∀ j c, T[j]? = some c → okAt W j c
/-- The digits among the first k bytes. -/
def digK (T : List UInt8) (W k : Nat) : List UInt8 := if k ≤ W then T.take k else T.take W ++ (T.take k).drop (W + 1)
theorem digK_zero (T : List UInt8) (W : Nat) : digK T W 0 = [] := by unfold digK; rw [if_pos (Nat.zero_le _), List.take_zero]
theorem digK_point (T : List UInt8) (W : Nat) (hk : W < T.length) : digK T W (W + 1) = digK T W W := by
  unfold digK
  rw [if_neg (by omega), if_pos (Nat.le_refl _), List.drop_of_length_le (by rw [List.length_take]; omega), List.append_nil]
theorem digK_next {T : List UInt8} {W k : Nat} {c : UInt8} (e : T[k]? = some c) (h : k ≠ W) : digK T W (k + 1) = digK T W k ++ [c] := by
  have hk := (List.getElem?_eq_some_iff.1 e).1
  unfold digK
  by_cases h1 : k + 1 ≤ W
  · rw [if_pos h1, if_pos (by omega), List.take_add_one, e]; rfl
  · rw [if_neg h1, if_neg (by omega), List.take_add_one, e, List.drop_append_of_le_length (by rw [List.length_take]; omega), List.append_assoc]; rfl
theorem digK_val {T : List UInt8} {W k v d : Nat} {c : UInt8} (e : T[k]? = some c) (h : k ≠ W) (hv : natV 0 (digK T W k) = v) (hd : c.toNat = 48 + d) : natV 0 (digK T W (k + 1)) = v * 10 + d := by
  rw [digK_next e h, natV_app, hv, natV_cons, natV_nil, hd]; omega
theorem digK_end (T : List UInt8) (W : Nat) : digK T W T.length = T.take W ++ T.drop (W + 1) := by
  unfold digK
  split
  · rw [List.take_of_length_le (Nat.le_refl _), List.take_of_length_le (by omega), List.drop_of_length_le (by omega), List.append_nil]
  · rw [List.take_of_length_le (Nat.le_refl _)]
/-- Where the point lies. -/
def Wh (T : List UInt8) (d W : Nat) : Prop := (d = 0 ∧ W = T.length) ∨ (0 < d ∧ T.length = W + d + 1)
theorem all_get {l : List UInt8} (h : ∀ (j : Nat) c, l[j]? = some c → isD c = true) : l.all isD = true := by
  rw [List.all_eq_true]
  intro c hc
  obtain ⟨j, hj, he⟩ := List.mem_iff_getElem.1 hc
  exact h j c (by rw [List.getElem?_eq_getElem hj, he])
theorem get_all {l : List UInt8} (h : l.all isD = true) {j : Nat} {c : UInt8} (e : l[j]? = some c) : isD c = true := List.all_eq_true.1 h c (List.mem_of_getElem? e)
theorem natL_iff {l : List UInt8} : natL l = true ↔ l.all isD = true ∧ l ≠ [] ∧ ¬ (l[0]? = some 48 ∧ 1 < l.length) := by
  unfold natL
  rw [Bool.and_eq_true, Bool.or_eq_true, Bool.and_eq_true, decide_eq_true_eq, Bool.not_eq_true', Bool.not_eq_true', decide_eq_false_iff_not, List.head?_eq_getElem?]
  constructor
  · rintro ⟨h1, h2⟩
    refine ⟨h1, ?_, ?_⟩
    · rintro rfl
      rcases h2 with h2 | h2
      · cases h2
      · cases h2.1
    · rintro ⟨h3, h4⟩
      rcases h2 with h2 | h2
      · rw [h2] at h4; simp at h4
      · exact h2.2 h3
  · rintro ⟨h1, h2, h3⟩
    refine ⟨h1, ?_⟩
    match l, h2 with
    | c :: r, _ =>
      by_cases hc : c = 48
      · subst hc
        have : r = [] := by
          apply Classical.byContradiction
          intro hr
          refine h3 ⟨rfl, ?_⟩
          have := List.length_pos_iff.2 hr
          simp; omega
        subst this
        exact .inl rfl
      · exact .inr ⟨rfl, by simpa using hc⟩
theorem split_good {T : List UInt8} {d W : Nat} (hw : Wh T d W) (h : goodT T W) : splitF T d = some (digK T W T.length) := by
  obtain ⟨h1, h2, h3⟩ := h
  rw [digK_end]
  unfold splitF
  rcases hw with ⟨rfl, rfl⟩ | ⟨hd, hl⟩
  · rw [if_pos rfl, if_pos, List.take_length, List.drop_of_length_le (by omega), List.append_nil]
    rw [natL_iff]
    refine ⟨all_get fun j c e => ?_, by intro e; rw [e] at h1; simp at h1, h2⟩
    have := h3 j c e
    unfold okAt at this
    rwa [if_neg (by have := (List.getElem?_eq_some_iff.1 e).1; omega)] at this
  · rw [if_neg (by omega), if_neg (by omega), if_pos, show T.length - d - 1 = W by omega, show T.length - d = W + 1 by omega]
    rw [show T.length - d - 1 = W by omega, show T.length - d = W + 1 by omega]
    have hW : T[W]? = some T[W] := List.getElem?_eq_getElem (by omega)
    refine ⟨?_, ?_, all_get fun j c e => ?_⟩
    · have := h3 W _ hW
      unfold okAt at this
      rw [if_pos rfl] at this
      rw [hW]
      congr 1
      exact UInt8.toNat.inj this
    · rw [natL_iff]
      refine ⟨all_get fun j c e => ?_, ?_, ?_⟩
      · rw [List.getElem?_take] at e
        split at e
        · have := h3 j c e
          unfold okAt at this
          rwa [if_neg (by omega)] at this
        · cases e
      · intro e
        have := congrArg List.length e
        rw [List.length_take, Nat.min_eq_left (by omega), List.length_nil] at this
        omega
      · rw [List.getElem?_take, if_pos (by omega), List.length_take, Nat.min_eq_left (by omega)]
        exact h2
    · rw [List.getElem?_drop] at e
      have := h3 _ c e
      unfold okAt at this
      rwa [if_neg (by omega)] at this
theorem split_bad {T : List UInt8} {d W : Nat} (hw : Wh T d W) (h : ¬ goodT T W) : splitF T d = none := by
  unfold splitF
  rcases hw with ⟨rfl, rfl⟩ | ⟨hd, hl⟩
  · rw [if_pos rfl, if_neg]
    intro hn
    rw [natL_iff] at hn
    obtain ⟨h1, h2, h3⟩ := hn
    refine h ⟨by have := List.length_pos_iff.2 h2; omega, h3, fun j c e => ?_⟩
    unfold okAt
    rw [if_neg (by have := (List.getElem?_eq_some_iff.1 e).1; omega)]
    exact get_all h1 e
  · rw [if_neg (by omega)]
    split
    · rfl
    · rename_i hlen
      rw [if_neg, ]
      rw [show T.length - d - 1 = W by omega, show T.length - d = W + 1 by omega]
      rintro ⟨h1, h2, h3⟩
      rw [natL_iff] at h2
      obtain ⟨g1, g2, g3⟩ := h2
      rw [List.getElem?_take, if_pos (by omega), List.length_take, Nat.min_eq_left (by omega)] at g3
      refine h ⟨by omega, g3, fun j c e => ?_⟩
      unfold okAt
      split
      · rename_i hj
        subst hj
        rw [h1] at e
        rw [← Option.some.inj e]; rfl
      · rename_i hj
        by_cases hlt : j < W
        · exact get_all g1 (j := j) (by rw [List.getElem?_take, if_pos hlt]; exact e)
        · exact get_all h3 (j := j - (W + 1)) (by rw [List.getElem?_drop, show W + 1 + (j - (W + 1)) = j by omega]; exact e)
theorem split_short {T : List UInt8} {d : Nat} (hd : 0 < d) (h : T.length < d + 2) : splitF T d = none := by
  unfold splitF
  rw [if_neg (by omega), if_pos h]
theorem split_empty {T : List UInt8} (h : T.length = 0) : splitF T 0 = none := by
  have : T = [] := List.eq_nil_of_length_eq_zero h
  subst this
  rfl
/-- So far all bytes are as they must be. -/
def scanOk (T : List UInt8) (W k : Nat) : Prop := ∀ j c, j < k → T[j]? = some c → okAt W j c
theorem scan_next {T : List UInt8} {W k : Nat} {c : UInt8} (h : scanOk T W k) (e : T[k]? = some c) (hc : okAt W k c) : scanOk T W (k + 1) := by
  intro j x hj ex
  rcases Nat.lt_or_ge j k with h1 | h1
  · exact h j x h1 ex
  · have : j = k := by omega
    subst this
    rw [e] at ex
    rw [← Option.some.inj ex]; exact hc
theorem scan_stop {T : List UInt8} {W k : Nat} {c : UInt8} (e : T[k]? = some c) (hc : ¬ okAt W k c) : ¬ goodT T W := fun h => hc (h.2.2 k c e)
theorem scan_end {T : List UInt8} {W k : Nat} (h : scanOk T W k) (hk : T.length ≤ k) (h1 : 1 ≤ W) (h2 : ¬ (T[0]? = some 48 ∧ 1 < W)) : goodT T W :=
  ⟨h1, h2, fun j c e => h j c (by have := (List.getElem?_eq_some_iff.1 e).1; omega) e⟩

/-! Without zeros ahead. -/
def trimZ (l : List UInt8) : List UInt8 := l.dropWhile fun c => decide (c.toNat = 48)
theorem trim_val : ∀ (l : List UInt8), l.all isD = true → natV 0 (trimZ l) = natV 0 l
  | [], _ => rfl
  | c :: r, h => by
    rw [List.all_cons, Bool.and_eq_true] at h
    unfold trimZ
    rw [List.dropWhile_cons]
    split
    · rename_i hc
      have hc : c.toNat = 48 := by simpa using hc
      have := trim_val r h.2
      unfold trimZ at this
      rw [this, natV_cons, hc]
    · rfl
theorem trim_all (l : List UInt8) (h : l.all isD = true) : (trimZ l).all isD = true := by
  rw [List.all_eq_true] at h ⊢
  intro c hc
  exact h c ((List.dropWhile_sublist _).subset hc)
theorem trim_head (l : List UInt8) {c : UInt8} (h : (trimZ l)[0]? = some c) : c.toNat ≠ 48 := by
  induction l with
  | nil => cases h
  | cons x r ih =>
    unfold trimZ at h
    rw [List.dropWhile_cons] at h
    split at h
    · exact ih h
    · rename_i hx
      have : x = c := by simpa using h
      subst this
      simpa using hx
theorem trim_nat {l : List UInt8} (h : l.all isD = true) (h2 : trimZ l ≠ []) : natL (trimZ l) = true := by
  rw [natL_iff]
  refine ⟨trim_all l h, h2, fun ⟨h3, _⟩ => ?_⟩
  exact trim_head l h3 rfl
theorem trim_pos {l : List UInt8} (h : l.all isD = true) (h2 : trimZ l ≠ []) : 1 ≤ natV 0 l := by
  rw [← trim_val l h]
  have h3 := trim_nat h h2
  apply Classical.byContradiction
  intro hn
  have h0 : natV 0 (trimZ l) = 0 := by omega
  have h5 := dec_nat (trimZ l).length (trimZ l) (Nat.le_refl _) h3
  rw [h0] at h5
  have h6 : trimZ l = [48] := by rw [← h5]; decide +kernel
  exact trim_head l (c := 48) (by rw [h6]; rfl) rfl
theorem trim_zero {l : List UInt8} (h : l.all isD = true) (h2 : trimZ l = []) : natV 0 l = 0 := by
  rw [← trim_val l h, h2, natV_nil]
theorem digK_all {T : List UInt8} {W : Nat} (h : goodT T W) : (digK T W T.length).all isD = true := by
  rw [digK_end, List.all_append, Bool.and_eq_true]
  refine ⟨all_get fun j c e => ?_, all_get fun j c e => ?_⟩
  · rw [List.getElem?_take] at e
    split at e
    · have := h.2.2 j c e
      unfold okAt at this
      rwa [if_neg (by omega)] at this
    · cases e
  · rw [List.getElem?_drop] at e
    have := h.2.2 _ c e
    unfold okAt at this
    rwa [if_neg (by omega)] at this
theorem split_all {T D : List UInt8} {d : Nat} (h : splitF T d = some D) : D.all isD = true := by
  unfold splitF at h
  split at h
  · split at h
    · rename_i hn
      cases h
      exact (natL_iff.1 hn).1
    · cases h
  · split at h
    · cases h
    · split at h
      · rename_i hc
        cases h
        rw [List.all_append, (natL_iff.1 hc.2.1).1, hc.2.2]; rfl
      · cases h

/-! Sums. -/
theorem sum_next {l : List Int} {k : Nat} {x : Int} (e : l[k]? = some x) : (l.take (k + 1)).sum = (l.take k).sum + x := by
  rw [List.take_add_one, e, List.sum_append]
  show _ + [x].sum = _
  rw [List.sum_cons, List.sum_nil]; omega
theorem allv_next {l : List Int} {k : Nat} {x : Int} (e : l[k]? = some x) (h : (l.take k).all valid3 = true) (hx : valid3 x = true) : (l.take (k + 1)).all valid3 = true := by
  rw [List.take_add_one, e, List.all_append, h]; simp [hx]
theorem allv_no {l : List Int} {k : Nat} {x : Int} (e : l[k]? = some x) (hx : valid3 x = false) : ¬ l.all valid3 = true := by
  intro h
  have := List.all_eq_true.1 h x (List.mem_of_getElem? e)
  rw [hx] at this; cases this
theorem sum_many {l : List Int} (h : 4096 < l.length) : sumV l = 0 ∧ sumE l = 5 := by unfold sumV sumE; rw [if_neg (by omega), if_neg (by omega)]; exact ⟨rfl, rfl⟩
theorem sum_arg {l : List Int} (h : l.length ≤ 4096) (h2 : ¬ l.all valid3 = true) : sumV l = 0 ∧ sumE l = 1 := by unfold sumV sumE; rw [if_pos h, if_pos h, if_neg h2, if_neg h2]; exact ⟨rfl, rfl⟩
theorem sum_end {l : List Int} {k : Nat} {v : Int} (h : l.length ≤ 4096) (hk : l.length ≤ k) (h2 : (l.take k).all valid3 = true) (h3 : (l.take k).sum = v) : sumV l = (if valid3 v = true then v else 0) ∧ sumE l = if valid3 v = true then 0 else 6 := by
  rw [List.take_of_length_le hk] at h2 h3
  unfold sumV sumE
  rw [if_pos h, if_pos h, if_pos h2, if_pos h2, h3]
  exact ⟨rfl, rfl⟩
end Go.Proofs.YtaphbajfjmhpnaaDoor
