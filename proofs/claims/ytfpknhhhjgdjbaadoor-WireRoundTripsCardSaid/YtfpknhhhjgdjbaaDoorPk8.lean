/-
  How the length at the beginning of an encoding is read: the program's way and the document's. Conditions: none (no program in it).
-/
import Derived.Test.YtfpknhhhjgdjbaaDoorPk7
namespace Go.Proofs.YtfpknhhhjgdjbaaDoor
open Go.RowKit
set_option maxRecDepth 100000

theorem natL_head {c : List UInt8} (h : natL c = true) : negL c = false := by
  have ha := natL_all h
  have hn := natL_ne h
  unfold negL
  rw [decide_eq_false_iff_not]
  intro e
  cases c with
  | nil => exact hn rfl
  | cons a r =>
    simp only [List.head?_cons, Option.some.injEq] at e
    subst e
    simp [isD] at ha
theorem natL_dig {c : List UInt8} (h : natL c = true) : digL c = c := by unfold digL; rw [natL_head h, if_neg (by simp)]
theorem take_nat {c : List UInt8} (h : natL c = true) (hv : natV 0 c ≤ 16384) : takeE c = 0 ∧ takeV c = natV 0 c := by
  have h1 := natL_head h
  have h2 := natL_dig h
  have h3 : decL c = true := by unfold decL; rw [h2, h1, h]; rfl
  have h4 : fitL c = true := by unfold fitL; rw [h2, h1, if_neg (by simp), decide_eq_true_eq]; omega
  unfold takeE takeV
  rw [if_pos h3, if_pos h4, if_pos h3, if_pos h4, h1, if_neg (by simp), h2]
  exact ⟨rfl, rfl⟩
theorem nat_take {c : List UInt8} (he : takeE c = 0) (h0 : 0 ≤ takeV c) (h1 : takeV c ≤ 16384) : natL c = true ∧ natV 0 c ≤ 16384 := by
  unfold takeE at he
  by_cases hd : decL c = true
  · rw [if_pos hd] at he
    by_cases hf : fitL c = true
    · unfold takeV at h0 h1
      rw [if_pos hd, if_pos hf] at h0 h1
      unfold decL at hd
      rw [Bool.and_eq_true, Bool.not_eq_true', Bool.and_eq_false_iff] at hd
      by_cases hn : negL c = true
      · rw [if_pos hn] at h0 h1
        have hz : natV 0 (digL c) = 0 := by omega
        have hq := dec_nat _ _ (Nat.le_refl _) hd.1
        rw [hz, dec_small (by omega)] at hq
        rcases hd.2 with q | q
        · rw [hn] at q; cases q
        · rw [decide_eq_false_iff_not] at q; exact absurd hq.symm q
      · rw [if_neg hn] at h0 h1
        have e : digL c = c := by unfold digL; rw [if_neg hn]
        rw [e] at hd h1
        exact ⟨hd.1, by omega⟩
    · rw [if_neg hf] at he; cases he
  · rw [if_neg hd] at he; cases he
theorem natL_short {c : List UInt8} (h : natL c = true) (hv : natV 0 c ≤ 16384) : c.length ≤ 6 := by
  have e := dec_nat _ _ (Nat.le_refl _) h
  generalize natV 0 c = v at e hv
  have h1 : ∀ u, u < 10 → (Lib.decDigits u).length = 1 := fun u hu => by rw [dec_small hu]; rfl
  have h2 : ∀ u k, (∀ v, v < 10 ^ k → (Lib.decDigits v).length ≤ k) → u < 10 ^ (k + 1) → 1 ≤ k → (Lib.decDigits u).length ≤ k + 1 := by
    intro u k hk hu h1k
    by_cases hs : u < 10
    · rw [h1 u hs]; omega
    · rw [dec_big hs, List.length_append]
      have := hk (u / 10) (by rw [Nat.pow_succ] at hu; omega)
      simp; omega
  have g1 : ∀ v, v < 10 ^ 1 → (Lib.decDigits v).length ≤ 1 := fun v hv => Nat.le_of_eq (h1 v (by omega))
  have g2 := fun u hu => h2 u 1 g1 hu (by omega)
  have g3 := fun u hu => h2 u 2 g2 hu (by omega)
  have g4 := fun u hu => h2 u 3 g3 hu (by omega)
  have g5 := g4
  have g6 := fun u hu => h2 u 4 g4 hu (by omega)
  have := g6 v (by show v < 100000; omega)
  rw [e] at this
  omega
theorem cut_at : ∀ (s : List UInt8), (cutL s).length < s.length → s[(cutL s).length]? = some 58
  | [], h => by cases h
  | c :: r, h => by
    rw [cutL] at h ⊢
    by_cases hc : c = 58
    · rw [if_pos hc, hc]; rfl
    · rw [if_neg hc] at h ⊢
      rw [List.length_cons, List.getElem?_cons_succ]
      exact cut_at r (by simpa using h)
theorem lenF_some {s : List UInt8} (h1 : (cutL s).length < s.length) (h2 : natL (cutL s) = true) (h3 : natV 0 (cutL s) ≤ 16384) : lenF s = some (natV 0 (cutL s)) := by unfold lenF; rw [if_pos ⟨h1, h2, h3⟩]
theorem lenF_inv {s : List UInt8} {m : Nat} (h : lenF s = some m) : (cutL s).length < s.length ∧ natL (cutL s) = true ∧ natV 0 (cutL s) ≤ 16384 ∧ m = natV 0 (cutL s) := by
  unfold lenF at h
  split at h
  · rename_i q
    injection h with h
    exact ⟨q.1, q.2.1, q.2.2, h.symm⟩
  · cases h
theorem lenF_none {s : List UInt8} (h : ¬ ((cutL s).length < s.length ∧ natL (cutL s) = true ∧ natV 0 (cutL s) ≤ 16384)) : lenF s = none := by unfold lenF; rw [if_neg h]

/-! The document's way. -/
theorem ref_len_ok {s : List UInt8} (h1 : (cutL s).length < s.length) (he : takeE (cutL s) = 0) (h0 : 0 ≤ takeV (cutL s)) (h2 : takeV (cutL s) ≤ 16384) : ∃ n : Nat, lenF s = some n ∧ takeV (cutL s) = n := by
  obtain ⟨a, b⟩ := nat_take he h0 h2
  exact ⟨_, lenF_some h1 a b, (take_nat a b).2⟩
theorem ref_len_no {s : List UInt8} (h : takeE (cutL s) ≠ 0 ∨ takeV (cutL s) < 0 ∨ 16384 < takeV (cutL s)) : lenF s = none := lenF_none fun ⟨_, h2, h3⟩ => by
  obtain ⟨a, b⟩ := take_nat h2 h3
  rcases h with h | h | h
  · exact h a
  · omega
  · omega
theorem ref_len_end {s : List UInt8} (h : ¬ (cutL s).length < s.length) : lenF s = none := lenF_none fun ⟨h2, _⟩ => h h2
theorem ref_len_long {s : List UInt8} (h : 6 < (cutL s).length) : lenF s = none := lenF_none fun ⟨_, h2, h3⟩ => by
  have := natL_short h2 h3
  omega
/-- The scan for a colon. -/
theorem cut_scan_next {s : List UInt8} {k : Nat} {c : UInt8} (e : s[k]? = some c) (hc : c ≠ 58) (hv : (cutL s).length = k + (cutL (s.drop k)).length) : (cutL s).length = (k + 1) + (cutL (s.drop (k + 1))).length := by
  obtain ⟨h1, rfl⟩ := List.getElem?_eq_some_iff.1 e
  rw [hv, List.drop_eq_getElem_cons h1, cutL, if_neg hc, List.length_cons]
  omega
theorem cut_scan_stop {s : List UInt8} {k : Nat} (e : s[k]? = some 58) (hv : (cutL s).length = k + (cutL (s.drop k)).length) : (cutL s).length = k := by
  obtain ⟨h1, h2⟩ := List.getElem?_eq_some_iff.1 e
  rw [hv, List.drop_eq_getElem_cons h1, h2, cutL, if_pos rfl]; rfl
theorem cut_scan_end {s : List UInt8} {k : Nat} (h : s.length ≤ k) (hv : (cutL s).length = k + (cutL (s.drop k)).length) : (cutL s).length = k := by
  rw [hv, List.drop_of_length_le h]; rfl
theorem cut_take (s : List UInt8) : s.take (cutL s).length = cutL s := by
  induction s with
  | nil => rfl
  | cons c r ih =>
    rw [cutL]
    split
    · rfl
    · rw [List.length_cons, List.take_succ_cons, ih]

/-! The program's way. -/
theorem isD58 : isD 58 = false := by decide
theorem digits_len {s : List UInt8} {i m : Nat} (ha : (s.take i).all isD = true) (_hi : i ≤ s.length) (hm : lenF s = some m)
    (hx : ¬ (∃ c, s[i]? = some c ∧ isD c = true ∧ natV 0 (s.take i) ≤ 16384)) : i = (cutL s).length ∧ natV 0 (s.take i) = m := by
  obtain ⟨h1, h2, h3, h4⟩ := lenF_inv hm
  have hsp := cut_split s h1
  have hct := cut_take s
  have hall := natL_all h2
  rcases Nat.lt_trichotomy i (cutL s).length with hlt | he | hgt
  · exfalso
    have e : (cutL s)[i]? = some (cutL s)[i] := List.getElem?_eq_getElem hlt
    have e2 : s[i]? = (cutL s)[i]? := by rw [← hct, List.getElem?_take]; rw [if_pos hlt]
    have h5 : isD (cutL s)[i] = true := List.all_eq_true.1 hall _ (List.getElem_mem hlt)
    refine hx ⟨_, e2.trans e, h5, ?_⟩
    have e3 : cutL s = s.take i ++ (cutL s).drop i := by
      conv => lhs; rw [← List.take_append_drop i (cutL s)]
      congr 1
      conv => lhs; rw [← hct]
      rw [List.take_take, Nat.min_eq_left (by omega)]
    have := natV_ge ((cutL s).drop i) (natV 0 (s.take i))
    rw [← natV_app, ← e3] at this
    omega
  · rw [he, hct]; exact ⟨rfl, h4.symm⟩
  · exfalso
    have e := cut_at s h1
    have e2 : (s.take i)[(cutL s).length]? = some 58 := by rw [List.getElem?_take, if_pos hgt, e]
    have := List.all_eq_true.1 ha 58 (List.mem_of_getElem? e2)
    rw [isD58] at this
    cases this
theorem prog_len_ok {s : List UInt8} {i : Nat} (ha : (s.take i).all isD = true) (hn : natV 0 (s.take i) ≤ 16384) (h0 : i ≠ 0) (e : s[i]? = some 58) (hz : ¬ (s[0]? = some 48 ∧ 1 < i)) : lenF s = some (natV 0 (s.take i)) ∧ headN s = i + 1 := by
  have hi : i < s.length := (List.getElem?_eq_some_iff.1 e).1
  have hsp : s = s.take i ++ 58 :: s.drop (i + 1) := by
    obtain ⟨h1, h2⟩ := List.getElem?_eq_some_iff.1 e
    conv => lhs; rw [← List.take_append_drop i s, List.drop_eq_getElem_cons h1, h2]
  have hcut : cutL s = s.take i := by
    conv => lhs; rw [hsp]
    refine cut_app _ _ fun c hc e => ?_
    have := List.all_eq_true.1 ha c hc
    rw [e, isD58] at this
    cases this
  have hlen : (cutL s).length = i := by rw [hcut, List.length_take]; omega
  have hnat : natL (cutL s) = true := by
    rw [hcut]
    unfold natL
    rw [ha, Bool.true_and, Bool.or_eq_true]
    have hh : (s.take i).head? = s[0]? := by
      rw [List.head?_eq_getElem?, List.getElem?_take, if_pos (by omega)]
    by_cases q : s[0]? = some 48
    · have : i = 1 := by
        have := mt (And.intro q) hz
        omega
      subst this
      refine .inl ?_
      rw [decide_eq_true_eq]
      cases s with
      | nil => cases q
      | cons a r =>
        simp at q
        rw [q]; rfl
    · refine .inr ?_
      rw [Bool.and_eq_true, hh]
      refine ⟨?_, by rw [Bool.not_eq_true', decide_eq_false_iff_not]; exact q⟩
      cases w : s.take i with
      | nil => rw [hcut, w] at hlen; simp at hlen; omega
      | cons a r => rfl
  refine ⟨?_, by unfold headN; rw [hlen]⟩
  rw [lenF_some (by omega) hnat (by rw [hcut]; exact hn), hcut]
theorem prog_len_no {s : List UInt8} {i : Nat} (ha : (s.take i).all isD = true) (hi : i ≤ s.length) (hx : ¬ (∃ c, s[i]? = some c ∧ isD c = true ∧ natV 0 (s.take i) ≤ 16384))
    (hb : i = 0 ∨ i = s.length ∨ s[i]? ≠ some 58 ∨ 16384 < natV 0 (s.take i) ∨ (s[0]? = some 48 ∧ 1 < i)) : lenF s = none := by
  cases hm : lenF s with
  | none => rfl
  | some m =>
    exfalso
    obtain ⟨g1, g2⟩ := digits_len ha hi hm hx
    obtain ⟨h1, h2, h3, h4⟩ := lenF_inv hm
    have hsp := cut_split s h1
    have hct := cut_take s
    rw [← g1] at hct
    have e : s[i]? = some 58 := by
      rw [g1]
      exact cut_at s h1
    rcases hb with hb | hb | hb | hb | ⟨hb, hb2⟩
    · have := List.length_pos_iff.2 (natL_ne h2)
      omega
    · omega
    · exact hb e
    · omega
    · have hh : (cutL s).head? = some 48 := by
        rw [← hct, List.head?_eq_getElem?, List.getElem?_take, if_pos (by omega), hb]
      unfold natL at h2
      rw [Bool.and_eq_true, Bool.or_eq_true, hh] at h2
      rcases h2.2 with q | q
      · have := congrArg List.length (of_decide_eq_true q)
        simp only [List.length_cons, List.length_nil] at this
        omega
      · simp at q
end Go.Proofs.YtfpknhhhjgdjbaaDoor
