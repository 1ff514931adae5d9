/-
  How the length at the beginning of an encoding is read: the program's way and the document's. Conditions: none (no program in it).
  Chapter 07, walked: decimal forms. Conditions: strings fit in memory.
  Chapter 07, walked: the length at the beginning of an encoding, natural numbers. Conditions: strings fit in memory.
  Plain facts on records as text: the text at the beginning, sums of sizes, the length of encodings. Conditions: those that each theorem states.
  Chapter 07, walked: numbers out of decimal forms. Conditions: strings fit in memory.
  Chapter 07, walked: the text at the beginning, and the lists with an encoding. Conditions: the encoding has at most a million bytes.
-/
import Derived.Test.YtfpknhhhjgdjbaaDoorGNum
import Derived.Test.YtfpknhhhjgdjbaaDoorGCon
import Derived.Lib.ItoaLen
namespace Go.Proofs.YtfpknhhhjgdjbaaDoor
open Go.RowKit
set_option maxRecDepth 100000

theorem natL_head {c : List UInt8} (h : natL c = true) : negL c = false := by
  have ha := natL_all h
  have hn := natL_ne h
  unfold negL
  rw [decide_eq_false_iff_not]
  intro e
  cases c with
  | nil => exact hn rfl
  | cons a r =>
    simp only [List.head?_cons, Option.some.injEq] at e
    subst e
    simp [isD] at ha
theorem natL_dig {c : List UInt8} (h : natL c = true) : digL c = c := by unfold digL; rw [natL_head h, if_neg (by simp)]
theorem take_nat {c : List UInt8} (h : natL c = true) (hv : natV 0 c ≤ 16384) : takeE c = 0 ∧ takeV c = natV 0 c := by
  have h1 := natL_head h
  have h2 := natL_dig h
  have h3 : decL c = true := by unfold decL; rw [h2, h1, h]; rfl
  have h4 : fitL c = true := by unfold fitL; rw [h2, h1, if_neg (by simp), decide_eq_true_eq]; omega
  unfold takeE takeV
  rw [if_pos h3, if_pos h4, if_pos h3, if_pos h4, h1, if_neg (by simp), h2]
  exact ⟨rfl, rfl⟩
theorem nat_take {c : List UInt8} (he : takeE c = 0) (h0 : 0 ≤ takeV c) (h1 : takeV c ≤ 16384) : natL c = true ∧ natV 0 c ≤ 16384 := by
  unfold takeE at he
  by_cases hd : decL c = true
  · rw [if_pos hd] at he
    by_cases hf : fitL c = true
    · unfold takeV at h0 h1
      rw [if_pos hd, if_pos hf] at h0 h1
      unfold decL at hd
      rw [Bool.and_eq_true, Bool.not_eq_true', Bool.and_eq_false_iff] at hd
      by_cases hn : negL c = true
      · rw [if_pos hn] at h0 h1
        have hz : natV 0 (digL c) = 0 := by omega
        have hq := dec_nat _ _ (Nat.le_refl _) hd.1
        rw [hz, dec_small (by omega)] at hq
        rcases hd.2 with q | q
        · rw [hn] at q; cases q
        · rw [decide_eq_false_iff_not] at q; exact absurd hq.symm q
      · rw [if_neg hn] at h0 h1
        have e : digL c = c := by unfold digL; rw [if_neg hn]
        rw [e] at hd h1
        exact ⟨hd.1, by omega⟩
    · rw [if_neg hf] at he; cases he
  · rw [if_neg hd] at he; cases he
theorem natL_short {c : List UInt8} (h : natL c = true) (hv : natV 0 c ≤ 16384) : c.length ≤ 6 := by
  have e := dec_nat _ _ (Nat.le_refl _) h
  generalize natV 0 c = v at e hv
  have h1 : ∀ u, u < 10 → (Lib.decDigits u).length = 1 := fun u hu => by rw [dec_small hu]; rfl
  have h2 : ∀ u k, (∀ v, v < 10 ^ k → (Lib.decDigits v).length ≤ k) → u < 10 ^ (k + 1) → 1 ≤ k → (Lib.decDigits u).length ≤ k + 1 := by
    intro u k hk hu h1k
    by_cases hs : u < 10
    · rw [h1 u hs]; omega
    · rw [dec_big hs, List.length_append]
      have := hk (u / 10) (by rw [Nat.pow_succ] at hu; omega)
      simp; omega
  have g1 : ∀ v, v < 10 ^ 1 → (Lib.decDigits v).length ≤ 1 := fun v hv => Nat.le_of_eq (h1 v (by omega))
  have g2 := fun u hu => h2 u 1 g1 hu (by omega)
  have g3 := fun u hu => h2 u 2 g2 hu (by omega)
  have g4 := fun u hu => h2 u 3 g3 hu (by omega)
  have g5 := g4
  have g6 := fun u hu => h2 u 4 g4 hu (by omega)
  have := g6 v (by show v < 100000; omega)
  rw [e] at this
  omega
theorem cut_at : ∀ (s : List UInt8), (cutL s).length < s.length → s[(cutL s).length]? = some 58
  | [], h => by cases h
  | c :: r, h => by
    rw [cutL] at h ⊢
    by_cases hc : c = 58
    · rw [if_pos hc, hc]; rfl
    · rw [if_neg hc] at h ⊢
      rw [List.length_cons, List.getElem?_cons_succ]
      exact cut_at r (by simpa using h)
theorem lenF_some {s : List UInt8} (h1 : (cutL s).length < s.length) (h2 : natL (cutL s) = true) (h3 : natV 0 (cutL s) ≤ 16384) : lenF s = some (natV 0 (cutL s)) := by unfold lenF; rw [if_pos ⟨h1, h2, h3⟩]
theorem lenF_inv {s : List UInt8} {m : Nat} (h : lenF s = some m) : (cutL s).length < s.length ∧ natL (cutL s) = true ∧ natV 0 (cutL s) ≤ 16384 ∧ m = natV 0 (cutL s) := by
  unfold lenF at h
  split at h
  · rename_i q
    injection h with h
    exact ⟨q.1, q.2.1, q.2.2, h.symm⟩
  · cases h
theorem lenF_none {s : List UInt8} (h : ¬ ((cutL s).length < s.length ∧ natL (cutL s) = true ∧ natV 0 (cutL s) ≤ 16384)) : lenF s = none := by unfold lenF; rw [if_neg h]

/-! The document's way. -/
theorem ref_len_ok {s : List UInt8} (h1 : (cutL s).length < s.length) (he : takeE (cutL s) = 0) (h0 : 0 ≤ takeV (cutL s)) (h2 : takeV (cutL s) ≤ 16384) : ∃ n : Nat, lenF s = some n ∧ takeV (cutL s) = n := by
  obtain ⟨a, b⟩ := nat_take he h0 h2
  exact ⟨_, lenF_some h1 a b, (take_nat a b).2⟩
theorem ref_len_no {s : List UInt8} (h : takeE (cutL s) ≠ 0 ∨ takeV (cutL s) < 0 ∨ 16384 < takeV (cutL s)) : lenF s = none := lenF_none fun ⟨_, h2, h3⟩ => by
  obtain ⟨a, b⟩ := take_nat h2 h3
  rcases h with h | h | h
  · exact h a
  · omega
  · omega
theorem ref_len_end {s : List UInt8} (h : ¬ (cutL s).length < s.length) : lenF s = none := lenF_none fun ⟨h2, _⟩ => h h2
theorem ref_len_long {s : List UInt8} (h : 6 < (cutL s).length) : lenF s = none := lenF_none fun ⟨_, h2, h3⟩ => by
  have := natL_short h2 h3
  omega
/-- The scan for a colon. -/
theorem cut_scan_next {s : List UInt8} {k : Nat} {c : UInt8} (e : s[k]? = some c) (hc : c ≠ 58) (hv : (cutL s).length = k + (cutL (s.drop k)).length) : (cutL s).length = (k + 1) + (cutL (s.drop (k + 1))).length := by
  obtain ⟨h1, rfl⟩ := List.getElem?_eq_some_iff.1 e
  rw [hv, List.drop_eq_getElem_cons h1, cutL, if_neg hc, List.length_cons]
  omega
theorem cut_scan_stop {s : List UInt8} {k : Nat} (e : s[k]? = some 58) (hv : (cutL s).length = k + (cutL (s.drop k)).length) : (cutL s).length = k := by
  obtain ⟨h1, h2⟩ := List.getElem?_eq_some_iff.1 e
  rw [hv, List.drop_eq_getElem_cons h1, h2, cutL, if_pos rfl]; rfl
theorem cut_scan_end {s : List UInt8} {k : Nat} (h : s.length ≤ k) (hv : (cutL s).length = k + (cutL (s.drop k)).length) : (cutL s).length = k := by
  rw [hv, List.drop_of_length_le h]; rfl
theorem cut_take (s : List UInt8) : s.take (cutL s).length = cutL s := by
  induction s with
  | nil => rfl
  | cons c r ih =>
    rw [cutL]
    split
    · rfl
    · rw [List.length_cons, List.take_succ_cons, ih]

/-! The program's way. -/
theorem isD58 : isD 58 = false := by decide
theorem digits_len {s : List UInt8} {i m : Nat} (ha : (s.take i).all isD = true) (_hi : i ≤ s.length) (hm : lenF s = some m)
    (hx : ¬ (∃ c, s[i]? = some c ∧ isD c = true ∧ natV 0 (s.take i) ≤ 16384)) : i = (cutL s).length ∧ natV 0 (s.take i) = m := by
  obtain ⟨h1, h2, h3, h4⟩ := lenF_inv hm
  have hsp := cut_split s h1
  have hct := cut_take s
  have hall := natL_all h2
  rcases Nat.lt_trichotomy i (cutL s).length with hlt | he | hgt
  · exfalso
    have e : (cutL s)[i]? = some (cutL s)[i] := List.getElem?_eq_getElem hlt
    have e2 : s[i]? = (cutL s)[i]? := by rw [← hct, List.getElem?_take]; rw [if_pos hlt]
    have h5 : isD (cutL s)[i] = true := List.all_eq_true.1 hall _ (List.getElem_mem hlt)
    refine hx ⟨_, e2.trans e, h5, ?_⟩
    have e3 : cutL s = s.take i ++ (cutL s).drop i := by
      conv => lhs; rw [← List.take_append_drop i (cutL s)]
      congr 1
      conv => lhs; rw [← hct]
      rw [List.take_take, Nat.min_eq_left (by omega)]
    have := natV_ge ((cutL s).drop i) (natV 0 (s.take i))
    rw [← natV_app, ← e3] at this
    omega
  · rw [he, hct]; exact ⟨rfl, h4.symm⟩
  · exfalso
    have e := cut_at s h1
    have e2 : (s.take i)[(cutL s).length]? = some 58 := by rw [List.getElem?_take, if_pos hgt, e]
    have := List.all_eq_true.1 ha 58 (List.mem_of_getElem? e2)
    rw [isD58] at this
    cases this
theorem prog_len_ok {s : List UInt8} {i : Nat} (ha : (s.take i).all isD = true) (hn : natV 0 (s.take i) ≤ 16384) (h0 : i ≠ 0) (e : s[i]? = some 58) (hz : ¬ (s[0]? = some 48 ∧ 1 < i)) : lenF s = some (natV 0 (s.take i)) ∧ headN s = i + 1 := by
  have hi : i < s.length := (List.getElem?_eq_some_iff.1 e).1
  have hsp : s = s.take i ++ 58 :: s.drop (i + 1) := by
    obtain ⟨h1, h2⟩ := List.getElem?_eq_some_iff.1 e
    conv => lhs; rw [← List.take_append_drop i s, List.drop_eq_getElem_cons h1, h2]
  have hcut : cutL s = s.take i := by
    conv => lhs; rw [hsp]
    refine cut_app _ _ fun c hc e => ?_
    have := List.all_eq_true.1 ha c hc
    rw [e, isD58] at this
    cases this
  have hlen : (cutL s).length = i := by rw [hcut, List.length_take]; omega
  have hnat : natL (cutL s) = true := by
    rw [hcut]
    unfold natL
    rw [ha, Bool.true_and, Bool.or_eq_true]
    have hh : (s.take i).head? = s[0]? := by
      rw [List.head?_eq_getElem?, List.getElem?_take, if_pos (by omega)]
    by_cases q : s[0]? = some 48
    · have : i = 1 := by
        have := mt (And.intro q) hz
        omega
      subst this
      refine .inl ?_
      rw [decide_eq_true_eq]
      cases s with
      | nil => cases q
      | cons a r =>
        simp at q
        rw [q]; rfl
    · refine .inr ?_
      rw [Bool.and_eq_true, hh]
      refine ⟨?_, by rw [Bool.not_eq_true', decide_eq_false_iff_not]; exact q⟩
      cases w : s.take i with
      | nil => rw [hcut, w] at hlen; simp at hlen; omega
      | cons a r => rfl
  refine ⟨?_, by unfold headN; rw [hlen]⟩
  rw [lenF_some (by omega) hnat (by rw [hcut]; exact hn), hcut]
theorem prog_len_no {s : List UInt8} {i : Nat} (ha : (s.take i).all isD = true) (hi : i ≤ s.length) (hx : ¬ (∃ c, s[i]? = some c ∧ isD c = true ∧ natV 0 (s.take i) ≤ 16384))
    (hb : i = 0 ∨ i = s.length ∨ s[i]? ≠ some 58 ∨ 16384 < natV 0 (s.take i) ∨ (s[0]? = some 48 ∧ 1 < i)) : lenF s = none := by
  cases hm : lenF s with
  | none => rfl
  | some m =>
    exfalso
    obtain ⟨g1, g2⟩ := digits_len ha hi hm hx
    obtain ⟨h1, h2, h3, h4⟩ := lenF_inv hm
    have hsp := cut_split s h1
    have hct := cut_take s
    rw [← g1] at hct
    have e : s[i]? = some 58 := by
      rw [g1]
      exact cut_at s h1
    rcases hb with hb | hb | hb | hb | ⟨hb, hb2⟩
    · have := List.length_pos_iff.2 (natL_ne h2)
      omega
    · omega
    · exact hb e
    · omega
    · have hh : (cutL s).head? = some 48 := by
        rw [← hct, List.head?_eq_getElem?, List.getElem?_take, if_pos (by omega), hb]
      unfold natL at h2
      rw [Bool.and_eq_true, Bool.or_eq_true, hh] at h2
      rcases h2.2 with q | q
      · have := congrArg List.length (of_decide_eq_true q)
        simp only [List.length_cons, List.length_nil] at this
        omega
      · simp at q
end Go.Proofs.YtfpknhhhjgdjbaaDoor
namespace Go.Proofs.YtfpknhhhjgdjbaaDoor
open Go.RowKit
set_option maxRecDepth 100000
set_option linter.unusedSimpArgs false


theorem max63 {n : Nat} (h : n ≤ maxLen) : n ≤ 9223372036854775807 := Nat.le_trans h (by decide)
theorem str_nil {t : ByteArray} (h : t.size = 0) : (t = ⟨#[]⟩) = True := by
  have : t.data.toList = [] := List.eq_nil_of_length_eq_zero (by rw [size_toList]; exact h)
  rw [bytes_ext this]; simp
theorem str_ne {t : ByteArray} (h : ¬ t.size = 0) : (t = ⟨#[]⟩) = False := eq_false fun e => h (by rw [e]; rfl)
theorem ext_list (s : ByteArray) (a b : Nat) : (s.extract a b).data.toList = (s.data.toList.take b).drop a := by
  rw [ByteArray.data_extract, Array.toList_extract]
  simp [List.extract_eq_take_drop, List.drop_take]
theorem tail_list (s : ByteArray) : (s.extract 1 s.size).data.toList = s.data.toList.drop 1 := by
  rw [ext_list, List.take_of_length_le (by rw [size_toList]; exact Nat.le_refl _)]
theorem all_next {l : List UInt8} {k : Nat} {c : UInt8} (e : l[k]? = some c) (h : (l.take k).all isD = true) (hc : isD c = true) : (l.take (k + 1)).all isD = true := by
  rw [List.take_add_one, e, List.all_append, h]; simp [hc]
theorem all_end {l : List UInt8} {k : Nat} (hk : l.length ≤ k) (h : (l.take k).all isD = true) : l.all isD = true := by rw [List.take_of_length_le hk] at h; exact h
theorem all_bad {l : List UInt8} {k : Nat} {c : UInt8} (e : l[k]? = some c) (hc : isD c = false) : l.all isD = false := by
  rw [← Bool.not_eq_true, List.all_eq_true]
  intro h
  have := h c (List.mem_of_getElem? e)
  rw [hc] at this; cases this
theorem isD_ge {c : UInt8} (h : isD c = true) : 48 ≤ c.toNat ∧ c.toNat ≤ 57 := by unfold isD at h; simpa using h
theorem isD_lt {c : UInt8} (h : isD c = false) : c.toNat < 48 ∨ 57 < c.toNat := by
  unfold isD at h
  rw [Bool.and_eq_false_iff, decide_eq_false_iff_not, decide_eq_false_iff_not] at h
  omega
theorem head_at {l : List UInt8} {c : UInt8} (e : l[0]? = some c) : l.head? = some c := by rw [List.head?_eq_getElem?, e]
theorem u8_eq {c d : UInt8} : c = d ↔ c.toNat = d.toNat := ⟨fun h => by rw [h], fun h => UInt8.toNat.inj h⟩
/-- wire.decimal -/
theorem decimal_con (s : ByteArray) (hs : s.size ≤ maxLen) : Con Tryd.prog CtxP 50 [.ex (.string s)] (.val (.ex (.bool (decL s.data.toList)))) := by
  refine con_val base Tryd.func50 rfl rfl (by kernel_rfl) (Nat.le_of_ble_eq_true rfl) ?_
  rw [init_eq]
  have hs' := max63 hs
  by_cases s0 : s.size = 0
  · have hr : decL s.data.toList = false := by
      have : s.data.toList = [] := List.eq_nil_of_length_eq_zero (by rw [size_toList]; exact s0)
      rw [this]; rfl
    have te := str_nil s0
    (repeat' (first | refine awp_seq ?_ | refine awp_block ?_ | (refine awp_ret ?_; simp only [then_ret, block_ret, end_ret]) | ((first | refine vplain ?_ | refine vcond ?_ | refine awp_exit ?_ | refine awp_skip ?_ | refine And.intro (by first | omega | assumption | exact setOk_ge (by decide +kernel)) ?_ | refine nqif_ways (fun h => ?_) ?_ | ((first | refine gif_ways (fun h => ?_) (fun h => ?_) | refine cif_ways (fun h => ?_) (fun h => ?_)) <;> (try simp only [sxn] at h) <;> (try (exfalso; omega)))) <;> (try (simp (disch := omega) only [sx, Value.oneCell', ↓reduceIte, Nat.reduceAdd, Nat.reduceMul, Nat.reduceEqDiff, Nat.reduceLT, Nat.reduceLeDiff, Int.reduceToNat, Int.reduceEq, Int.reduceLT, Int.reduceLE, Int.reduceNe, *])))))
    all_goals simp only [sxd, z0, p0, Nat.reduceEqDiff, ↓reduceIte, Tryd.f50, *]
  have e0 := byte_at s 0 (by omega)
  by_cases hneg : (s[0]'(by omega)).toNat = 45
  · have hn : negL s.data.toList = true := by unfold negL; rw [head_at e0, decide_eq_true_eq, u8_eq.2 (show (s[0]'(by omega)).toNat = (45 : UInt8).toNat from hneg)]
    have hd0 : digL s.data.toList = s.data.toList.drop 1 := by unfold digL; rw [if_pos hn]
    obtain ⟨t, ht⟩ : ∃ t, s.extract 1 s.size = t := ⟨_, rfl⟩
    have hd : digL s.data.toList = t.data.toList := by rw [hd0, ← ht, tail_list]
    have htl : t.size + 1 = s.size := by rw [← size_toList t, ← hd, hd0, List.length_drop, size_toList]; omega
    have hneg' : ((s[0]'(by omega)).toNat : Int) = 45 := by omega
    clear hn hd0 e0
    by_cases t0 : t.size = 0
    · have te := str_nil t0
      have hr : decL s.data.toList = false := decL_bad (.inl (by rw [hd]; exact List.eq_nil_of_length_eq_zero (by rw [size_toList]; exact t0)))
      (repeat' (first | refine awp_seq ?_ | refine awp_block ?_ | (refine awp_ret ?_; simp only [then_ret, block_ret, end_ret]) | ((first | refine vplain ?_ | refine vcond ?_ | refine awp_exit ?_ | refine awp_skip ?_ | refine And.intro (by first | omega | assumption | exact setOk_ge (by decide +kernel)) ?_ | refine nqif_ways (fun h => ?_) ?_ | ((first | refine gif_ways (fun h => ?_) (fun h => ?_) | refine cif_ways (fun h => ?_) (fun h => ?_)) <;> (try simp only [sxn] at h) <;> (try (exfalso; omega)))) <;> (try (simp (disch := omega) only [sx, Value.oneCell', ↓reduceIte, Nat.reduceAdd, Nat.reduceMul, Nat.reduceEqDiff, Nat.reduceLT, Nat.reduceLeDiff, Int.reduceToNat, Int.reduceEq, Int.reduceLT, Int.reduceLE, Int.reduceNe, *])))))
      all_goals simp only [sxd, z0, p0, Nat.reduceEqDiff, ↓reduceIte, Tryd.f50, *]
    · have te := str_ne t0
      have f0 := byte_at t 0 (by omega)
      generalize hx : t[0]'(by omega) = x at f0
      by_cases hz : x.toNat = 48 ∧ 1 < s.size
      · have hr : decL s.data.toList = false := decL_bad (.inr ⟨by rw [hd, head_at f0, u8_eq.2 (show x.toNat = (48 : UInt8).toNat from hz.1)], by rw [size_toList]; exact hz.2⟩)
        obtain ⟨hz1, hz2⟩ := hz
        (repeat' (first | refine awp_seq ?_ | refine awp_block ?_ | (refine awp_ret ?_; simp only [then_ret, block_ret, end_ret]) | ((first | refine vplain ?_ | refine vcond ?_ | refine awp_exit ?_ | refine awp_skip ?_ | refine And.intro (by first | omega | assumption | exact setOk_ge (by decide +kernel)) ?_ | refine nqif_ways (fun h => ?_) ?_ | ((first | refine gif_ways (fun h => ?_) (fun h => ?_) | refine cif_ways (fun h => ?_) (fun h => ?_)) <;> (try simp only [sxn] at h) <;> (try (exfalso; omega)))) <;> (try (simp (disch := omega) only [sx, Value.oneCell', ↓reduceIte, Nat.reduceAdd, Nat.reduceMul, Nat.reduceEqDiff, Nat.reduceLT, Nat.reduceLeDiff, Int.reduceToNat, Int.reduceEq, Int.reduceLT, Int.reduceLE, Int.reduceNe, *])))))
        all_goals simp only [sxd, z0, p0, Nat.reduceEqDiff, ↓reduceIte, Tryd.f50, *]
      · have hg : Hid (decL s.data.toList = t.data.toList.all isD) := Lib.hid (by rw [decL_good, hd]; (intro e; rw [hd] at e; have := congrArg List.length e; rw [size_toList] at this; exact t0 this); (rintro ⟨e1, e2⟩; rw [hd, head_at f0] at e1; rw [size_toList] at e2; exact hz ⟨by have := Option.some.inj e1; rw [this]; rfl, e2⟩))
        have hz' : ¬ (x.toNat : Int) = 48 ∨ s.size ≤ 1 := by omega
        clear hz
        (repeat' (first | refine awp_seq ?_ | refine awp_block ?_ | (refine awp_ret ?_; simp only [then_ret, block_ret, end_ret]) | ((first | refine vplain ?_ | refine vcond ?_ | refine awp_exit ?_ | refine awp_skip ?_ | refine And.intro (by first | omega | assumption | exact setOk_ge (by decide +kernel)) ?_ | refine nqif_ways (fun h => ?_) ?_ | ((first | refine gif_ways (fun h => ?_) (fun h => ?_) | refine cif_ways (fun h => ?_) (fun h => ?_)) <;> (try simp only [sxn] at h) <;> (try (exfalso; omega)))) <;> (try (simp (disch := omega) only [sx, Value.oneCell', ↓reduceIte, Nat.reduceAdd, Nat.reduceMul, Nat.reduceEqDiff, Nat.reduceLT, Nat.reduceLeDiff, Int.reduceToNat, Int.reduceEq, Int.reduceLT, Int.reduceLE, Int.reduceNe, *])))))
        all_goals
          refine vloop (fun n tm hp nx => ∃ k : Nat, n = t.size - k ∧ k ≤ t.size ∧ tm 3 = .ex (.string t) ∧ tm 29 = .ex (.int .i64 t.size) ∧ tm 30 = .ex (.int .i64 k) ∧ Hid ((t.data.toList.take k).all isD = true)) t.size ⟨0, rfl, Nat.zero_le _, by (first | rfl | (simp (disch := omega) only [sx, natS, ↓reduceIte, Nat.reduceAdd, Nat.reduceEqDiff, Nat.reduceLeDiff, *])), by (first | rfl | (simp (disch := omega) only [sx, natS, ↓reduceIte, Nat.reduceAdd, Nat.reduceEqDiff, Nat.reduceLeDiff, *])), by (first | rfl | (simp (disch := omega) only [sx, natS, ↓reduceIte, Nat.reduceAdd, Nat.reduceEqDiff, Nat.reduceLeDiff, *])), Lib.hid rfl⟩ ?_
          rintro n tm hp nx ⟨k, hn, hkl, g3, g29, g30, hH⟩
          by_cases hlt : k < t.size
          · have f1 := byte_at t k hlt
            generalize hc : t[k]'hlt = c at f1
            cases hD : isD c with
            | true =>
              obtain ⟨d1, d2⟩ := isD_ge hD
              have hnx := Lib.hid (all_next f1 hH.out hD)
              (repeat' (first | refine awp_seq ?_ | refine awp_block ?_ | (refine awp_ret ?_; simp only [then_ret, block_ret, end_ret]) | ((first | refine vplain ?_ | refine vcond ?_ | refine awp_exit ?_ | refine awp_skip ?_ | refine And.intro (by first | omega | assumption | exact setOk_ge (by decide +kernel)) ?_ | refine nqif_ways (fun h => ?_) ?_ | ((first | refine gif_ways (fun h => ?_) (fun h => ?_) | refine cif_ways (fun h => ?_) (fun h => ?_)) <;> (try simp only [sxn] at h) <;> (try (exfalso; omega)))) <;> (try (simp (disch := omega) only [sx, Value.oneCell', ↓reduceIte, Nat.reduceAdd, Nat.reduceMul, Nat.reduceEqDiff, Nat.reduceLT, Nat.reduceLeDiff, Int.reduceToNat, Int.reduceEq, Int.reduceLT, Int.reduceLE, Int.reduceNe, *])))))
              exact kround_i (t.size - (k + 1)) (by omega) ⟨k + 1, rfl, by omega, by (first | rfl | (simp (disch := omega) only [sx, natS, ↓reduceIte, Nat.reduceAdd, Nat.reduceEqDiff, Nat.reduceLeDiff, *])), by (first | rfl | (simp (disch := omega) only [sx, natS, ↓reduceIte, Nat.reduceAdd, Nat.reduceEqDiff, Nat.reduceLeDiff, *])), by (first | rfl | (simp (disch := omega) only [sx, natS, ↓reduceIte, Nat.reduceAdd, Nat.reduceEqDiff, Nat.reduceLeDiff, *])), hnx⟩
            | false =>
              have d1 := isD_lt hD
              have hr : decL s.data.toList = false := hg.out.trans (all_bad f1 hD)
              (repeat' (first | refine awp_seq ?_ | refine awp_block ?_ | (refine awp_ret ?_; simp only [then_ret, block_ret, end_ret]) | ((first | refine vplain ?_ | refine vcond ?_ | refine awp_exit ?_ | refine awp_skip ?_ | refine And.intro (by first | omega | assumption | exact setOk_ge (by decide +kernel)) ?_ | refine nqif_ways (fun h => ?_) ?_ | ((first | refine gif_ways (fun h => ?_) (fun h => ?_) | refine cif_ways (fun h => ?_) (fun h => ?_)) <;> (try simp only [sxn] at h) <;> (try (exfalso; omega)))) <;> (try (simp (disch := omega) only [sx, Value.oneCell', ↓reduceIte, Nat.reduceAdd, Nat.reduceMul, Nat.reduceEqDiff, Nat.reduceLT, Nat.reduceLeDiff, Int.reduceToNat, Int.reduceEq, Int.reduceLT, Int.reduceLE, Int.reduceNe, *])))))
              all_goals simp only [sxd, z0, p0, Nat.reduceEqDiff, ↓reduceIte, Tryd.f50, *]
          · have hr : decL s.data.toList = true := hg.out.trans (all_end (by rw [size_toList]; omega) hH.out)
            (repeat' (first | refine awp_seq ?_ | refine awp_block ?_ | (refine awp_ret ?_; simp only [then_ret, block_ret, end_ret]) | ((first | refine vplain ?_ | refine vcond ?_ | refine awp_exit ?_ | refine awp_skip ?_ | refine And.intro (by first | omega | assumption | exact setOk_ge (by decide +kernel)) ?_ | refine nqif_ways (fun h => ?_) ?_ | ((first | refine gif_ways (fun h => ?_) (fun h => ?_) | refine cif_ways (fun h => ?_) (fun h => ?_)) <;> (try simp only [sxn] at h) <;> (try (exfalso; omega)))) <;> (try (simp (disch := omega) only [sx, Value.oneCell', ↓reduceIte, Nat.reduceAdd, Nat.reduceMul, Nat.reduceEqDiff, Nat.reduceLT, Nat.reduceLeDiff, Int.reduceToNat, Int.reduceEq, Int.reduceLT, Int.reduceLE, Int.reduceNe, *])))))
            all_goals simp only [sxd, z0, p0, Nat.reduceEqDiff, ↓reduceIte, Tryd.f50, *]
  · have hn : ¬ negL s.data.toList = true := by
      unfold negL
      rw [head_at e0, decide_eq_true_eq]
      intro e
      exact hneg (by rw [Option.some.inj e]; rfl)
    have hd0 : digL s.data.toList = s.data.toList := by unfold digL; rw [if_neg hn]
    clear hn e0
    have hd : digL s.data.toList = s.data.toList := hd0
    clear hd0
    have t0 : ¬ s.size = 0 := s0
    have te := str_ne (t := s) t0
    have f0 := byte_at s 0 (by omega)
    generalize hx : s[0]'(by omega) = x at f0 hneg
    by_cases hz : x.toNat = 48 ∧ 1 < s.size
    · have hr : decL s.data.toList = false := decL_bad (.inr ⟨by rw [hd, head_at f0, u8_eq.2 (show x.toNat = (48 : UInt8).toNat from hz.1)], by rw [size_toList]; exact hz.2⟩)
      obtain ⟨hz1, hz2⟩ := hz
      (repeat' (first | refine awp_seq ?_ | refine awp_block ?_ | (refine awp_ret ?_; simp only [then_ret, block_ret, end_ret]) | ((first | refine vplain ?_ | refine vcond ?_ | refine awp_exit ?_ | refine awp_skip ?_ | refine And.intro (by first | omega | assumption | exact setOk_ge (by decide +kernel)) ?_ | refine nqif_ways (fun h => ?_) ?_ | ((first | refine gif_ways (fun h => ?_) (fun h => ?_) | refine cif_ways (fun h => ?_) (fun h => ?_)) <;> (try simp only [sxn] at h) <;> (try (exfalso; omega)))) <;> (try (simp (disch := omega) only [sx, Value.oneCell', ↓reduceIte, Nat.reduceAdd, Nat.reduceMul, Nat.reduceEqDiff, Nat.reduceLT, Nat.reduceLeDiff, Int.reduceToNat, Int.reduceEq, Int.reduceLT, Int.reduceLE, Int.reduceNe, *])))))
      all_goals simp only [sxd, z0, p0, Nat.reduceEqDiff, ↓reduceIte, Tryd.f50, *]
    · have hg : Hid (decL s.data.toList = s.data.toList.all isD) := Lib.hid (by rw [decL_good, hd]; (intro e; rw [hd] at e; have := congrArg List.length e; rw [size_toList] at this; exact t0 this); (rintro ⟨e1, e2⟩; rw [hd, head_at f0] at e1; rw [size_toList] at e2; exact hz ⟨by have := Option.some.inj e1; rw [this]; rfl, e2⟩))
      have hz' : ¬ (x.toNat : Int) = 48 ∨ s.size ≤ 1 := by omega
      clear hz
      (repeat' (first | refine awp_seq ?_ | refine awp_block ?_ | (refine awp_ret ?_; simp only [then_ret, block_ret, end_ret]) | ((first | refine vplain ?_ | refine vcond ?_ | refine awp_exit ?_ | refine awp_skip ?_ | refine And.intro (by first | omega | assumption | exact setOk_ge (by decide +kernel)) ?_ | refine nqif_ways (fun h => ?_) ?_ | ((first | refine gif_ways (fun h => ?_) (fun h => ?_) | refine cif_ways (fun h => ?_) (fun h => ?_)) <;> (try simp only [sxn] at h) <;> (try (exfalso; omega)))) <;> (try (simp (disch := omega) only [sx, Value.oneCell', ↓reduceIte, Nat.reduceAdd, Nat.reduceMul, Nat.reduceEqDiff, Nat.reduceLT, Nat.reduceLeDiff, Int.reduceToNat, Int.reduceEq, Int.reduceLT, Int.reduceLE, Int.reduceNe, *])))))
      all_goals
        refine vloop (fun n tm hp nx => ∃ k : Nat, n = s.size - k ∧ k ≤ s.size ∧ tm 3 = .ex (.string s) ∧ tm 29 = .ex (.int .i64 s.size) ∧ tm 30 = .ex (.int .i64 k) ∧ Hid ((s.data.toList.take k).all isD = true)) s.size ⟨0, rfl, Nat.zero_le _, by (first | rfl | (simp (disch := omega) only [sx, natS, ↓reduceIte, Nat.reduceAdd, Nat.reduceEqDiff, Nat.reduceLeDiff, *])), by (first | rfl | (simp (disch := omega) only [sx, natS, ↓reduceIte, Nat.reduceAdd, Nat.reduceEqDiff, Nat.reduceLeDiff, *])), by (first | rfl | (simp (disch := omega) only [sx, natS, ↓reduceIte, Nat.reduceAdd, Nat.reduceEqDiff, Nat.reduceLeDiff, *])), Lib.hid rfl⟩ ?_
        rintro n tm hp nx ⟨k, hn, hkl, g3, g29, g30, hH⟩
        by_cases hlt : k < s.size
        · have f1 := byte_at s k hlt
          generalize hc : s[k]'hlt = c at f1
          cases hD : isD c with
          | true =>
            obtain ⟨d1, d2⟩ := isD_ge hD
            have hnx := Lib.hid (all_next f1 hH.out hD)
            (repeat' (first | refine awp_seq ?_ | refine awp_block ?_ | (refine awp_ret ?_; simp only [then_ret, block_ret, end_ret]) | ((first | refine vplain ?_ | refine vcond ?_ | refine awp_exit ?_ | refine awp_skip ?_ | refine And.intro (by first | omega | assumption | exact setOk_ge (by decide +kernel)) ?_ | refine nqif_ways (fun h => ?_) ?_ | ((first | refine gif_ways (fun h => ?_) (fun h => ?_) | refine cif_ways (fun h => ?_) (fun h => ?_)) <;> (try simp only [sxn] at h) <;> (try (exfalso; omega)))) <;> (try (simp (disch := omega) only [sx, Value.oneCell', ↓reduceIte, Nat.reduceAdd, Nat.reduceMul, Nat.reduceEqDiff, Nat.reduceLT, Nat.reduceLeDiff, Int.reduceToNat, Int.reduceEq, Int.reduceLT, Int.reduceLE, Int.reduceNe, *])))))
            exact kround_i (s.size - (k + 1)) (by omega) ⟨k + 1, rfl, by omega, by (first | rfl | (simp (disch := omega) only [sx, natS, ↓reduceIte, Nat.reduceAdd, Nat.reduceEqDiff, Nat.reduceLeDiff, *])), by (first | rfl | (simp (disch := omega) only [sx, natS, ↓reduceIte, Nat.reduceAdd, Nat.reduceEqDiff, Nat.reduceLeDiff, *])), by (first | rfl | (simp (disch := omega) only [sx, natS, ↓reduceIte, Nat.reduceAdd, Nat.reduceEqDiff, Nat.reduceLeDiff, *])), hnx⟩
          | false =>
            have d1 := isD_lt hD
            have hr : decL s.data.toList = false := hg.out.trans (all_bad f1 hD)
            (repeat' (first | refine awp_seq ?_ | refine awp_block ?_ | (refine awp_ret ?_; simp only [then_ret, block_ret, end_ret]) | ((first | refine vplain ?_ | refine vcond ?_ | refine awp_exit ?_ | refine awp_skip ?_ | refine And.intro (by first | omega | assumption | exact setOk_ge (by decide +kernel)) ?_ | refine nqif_ways (fun h => ?_) ?_ | ((first | refine gif_ways (fun h => ?_) (fun h => ?_) | refine cif_ways (fun h => ?_) (fun h => ?_)) <;> (try simp only [sxn] at h) <;> (try (exfalso; omega)))) <;> (try (simp (disch := omega) only [sx, Value.oneCell', ↓reduceIte, Nat.reduceAdd, Nat.reduceMul, Nat.reduceEqDiff, Nat.reduceLT, Nat.reduceLeDiff, Int.reduceToNat, Int.reduceEq, Int.reduceLT, Int.reduceLE, Int.reduceNe, *])))))
            all_goals simp only [sxd, z0, p0, Nat.reduceEqDiff, ↓reduceIte, Tryd.f50, *]
        · have hr : decL s.data.toList = true := hg.out.trans (all_end (by rw [size_toList]; omega) hH.out)
          (repeat' (first | refine awp_seq ?_ | refine awp_block ?_ | (refine awp_ret ?_; simp only [then_ret, block_ret, end_ret]) | ((first | refine vplain ?_ | refine vcond ?_ | refine awp_exit ?_ | refine awp_skip ?_ | refine And.intro (by first | omega | assumption | exact setOk_ge (by decide +kernel)) ?_ | refine nqif_ways (fun h => ?_) ?_ | ((first | refine gif_ways (fun h => ?_) (fun h => ?_) | refine cif_ways (fun h => ?_) (fun h => ?_)) <;> (try simp only [sxn] at h) <;> (try (exfalso; omega)))) <;> (try (simp (disch := omega) only [sx, Value.oneCell', ↓reduceIte, Nat.reduceAdd, Nat.reduceMul, Nat.reduceEqDiff, Nat.reduceLT, Nat.reduceLeDiff, Int.reduceToNat, Int.reduceEq, Int.reduceLT, Int.reduceLE, Int.reduceNe, *])))))
          all_goals simp only [sxd, z0, p0, Nat.reduceEqDiff, ↓reduceIte, Tryd.f50, *]
end Go.Proofs.YtfpknhhhjgdjbaaDoor
namespace Go.Proofs.YtfpknhhhjgdjbaaDoor
open Go.RowKit
set_option maxRecDepth 100000
set_option linter.unusedSimpArgs false

theorem bcells_len (l : List UInt8) : (bcells l).length = l.length := by simp [bcells]
theorem bcells_get? {l : List UInt8} {k : Nat} {c : UInt8} (h : l[k]? = some c) : (bcells l)[k]? = some [.ex (.int .u8 c.toNat)] := by
  rw [bcells, List.getElem?_map, h]; rfl
theorem bcells_all (l : List UInt8) : ∀ x ∈ bcells l, x.length = 1 := by
  intro x hx
  simp only [bcells, List.mem_map] at hx
  obtain ⟨c, _, rfl⟩ := hx
  rfl
def lenN (l : List UInt8) : Int := match lenF l with | some n => n | none => 0
def lenH (l : List UInt8) : Int := match lenF l with | some _ => headN l | none => 0
def lenB (l : List UInt8) : Bool := (lenF l).isSome
theorem len_no {l : List UInt8} (h : lenF l = none) : lenN l = 0 ∧ lenH l = 0 ∧ lenB l = false := by simp [lenN, lenH, lenB, h]
theorem len_ok {l : List UInt8} {n : Nat} (h : lenF l = some n) : lenN l = n ∧ lenH l = headN l ∧ lenB l = true := by simp [lenN, lenH, lenB, h]
theorem natV_next {l : List UInt8} {k n : Nat} {c : UInt8} {d : Nat} (e : l[k]? = some c) (h : natV 0 (l.take k) = n) (hc : c.toNat = 48 + d) : natV 0 (l.take (k + 1)) = n * 10 + d := by
  rw [List.take_add_one, e, natV_app, h]
  show natV n [c] = _
  rw [natV_cons, natV_nil, hc]; omega

theorem length_con (l : List UInt8) (hl : l.length ≤ maxLen) : Con Tryd.prog CtxP 48 [.sl (bcells l)] (.val (.tup [.ex (.int .i64 (lenN l)), .ex (.int .i64 (lenH l)), .ex (.bool (lenB l))])) := by
  refine con_val base Tryd.func48 rfl rfl (by kernel_rfl) (Nat.le_of_ble_eq_true rfl) ?_
  rw [init_eq]
  have hl' := max63 hl
  have q1 := bcells_len l
  (repeat' (first | refine awp_seq ?_ | refine awp_block ?_ | (refine awp_ret ?_; simp only [then_ret, block_ret, end_ret]) | ((first | refine vplain ?_ | refine vcond ?_ | refine awp_exit ?_ | refine awp_skip ?_ | refine And.intro (by first | omega | assumption | exact setOk_ge (by decide +kernel)) ?_ | refine nqif_ways (fun h => ?_) ?_ | ((first | refine gif_ways (fun h => ?_) (fun h => ?_) | refine cif_ways (fun h => ?_) (fun h => ?_)) <;> (try simp only [sxn] at h) <;> (try (exfalso; omega)))) <;> (try (simp (disch := omega) only [sx, Value.oneCell', ↓reduceIte, Nat.reduceAdd, Nat.reduceMul, Nat.reduceEqDiff, Nat.reduceLT, Nat.reduceLeDiff, Int.reduceToNat, Int.reduceEq, Int.reduceLT, Int.reduceLE, Int.reduceNe, *])))))
  refine vloop (fun n tm hp nx => ∃ (i v : Nat), n = l.length - i ∧ i ≤ l.length ∧ tm 0 = .sl (bcells l) ∧ tm 5 = .ex (.int .i64 v) ∧ tm 6 = .ex (.int .i64 i) ∧ v ≤ 163849 ∧ Hid (natV 0 (l.take i) = v) ∧ Hid ((l.take i).all isD = true)) l.length ⟨0, 0, rfl, Nat.zero_le _, by (first | rfl | (simp (disch := omega) only [sx, natS, ↓reduceIte, Nat.reduceAdd, Nat.reduceEqDiff, Nat.reduceLeDiff, *])), by (first | rfl | (simp (disch := omega) only [sx, natS, ↓reduceIte, Nat.reduceAdd, Nat.reduceEqDiff, Nat.reduceLeDiff, *])), by (first | rfl | (simp (disch := omega) only [sx, natS, ↓reduceIte, Nat.reduceAdd, Nat.reduceEqDiff, Nat.reduceLeDiff, *])), by omega, Lib.hid rfl, Lib.hid rfl⟩ ?_
  rintro n tm hp nx ⟨i, v, hn, hil, g0, g5, g6, hv, hV, hA⟩
  by_cases hlt : i < l.length
  · have e0 : l[i]? = some l[i] := List.getElem?_eq_getElem hlt
    generalize l[i] = c at e0
    have q4 := bcells_get? e0
    by_cases hgo : isD c = true ∧ v ≤ 16384
    · obtain ⟨hD, hv2⟩ := hgo
      obtain ⟨d, d1, -, -, d4⟩ := isD_inv hD
      have hnx := Lib.hid (natV_next e0 hV.out d4)
      have hna := Lib.hid (all_next e0 hA.out hD)
      have d4' : (c.toNat : Int) = 48 + d := by omega
      clear d4
      (repeat' (first | refine awp_seq ?_ | refine awp_block ?_ | (refine awp_ret ?_; simp only [then_ret, block_ret, end_ret]) | ((first | refine vplain ?_ | refine vcond ?_ | refine awp_exit ?_ | refine awp_skip ?_ | refine And.intro (by first | omega | assumption | exact setOk_ge (by decide +kernel)) ?_ | refine nqif_ways (fun h => ?_) ?_ | ((first | refine gif_ways (fun h => ?_) (fun h => ?_) | refine cif_ways (fun h => ?_) (fun h => ?_)) <;> (try simp only [sxn] at h) <;> (try (exfalso; omega)))) <;> (try (simp (disch := omega) only [sx, Value.oneCell', ↓reduceIte, Nat.reduceAdd, Nat.reduceMul, Nat.reduceEqDiff, Nat.reduceLT, Nat.reduceLeDiff, Int.reduceToNat, Int.reduceEq, Int.reduceLT, Int.reduceLE, Int.reduceNe, *])))))
      exact kround_i (l.length - (i + 1)) (by omega) ⟨i + 1, v * 10 + d, rfl, by omega, by (first | rfl | (simp (disch := omega) only [sx, natS, ↓reduceIte, Nat.reduceAdd, Nat.reduceEqDiff, Nat.reduceLeDiff, *])), by (simp (disch := omega) only [sx, Value.oneCell', ↓reduceIte, Nat.reduceAdd, Nat.reduceMul, Nat.reduceEqDiff, Nat.reduceLT, Nat.reduceLeDiff, Int.reduceToNat, Int.reduceEq, Int.reduceLT, Int.reduceLE, Int.reduceNe, natS, *]; congr 2; omega), by (first | rfl | (simp (disch := omega) only [sx, natS, ↓reduceIte, Nat.reduceAdd, Nat.reduceEqDiff, Nat.reduceLeDiff, *])), by omega, hnx, hna⟩
    · have hx : Hid (¬ (∃ c, l[i]? = some c ∧ isD c = true ∧ natV 0 (l.take i) ≤ 16384)) := Lib.hid (by
        rintro ⟨c', f1, f2, f3⟩
        rw [e0] at f1
        cases f1
        rw [hV.out] at f3
        exact hgo ⟨f2, f3⟩)
      have hstop : (c.toNat < 48 ∨ 57 < c.toNat) ∨ 16384 < v := by
        by_cases h1 : isD c = true
        · exact .inr (Nat.lt_of_not_le fun h2 => hgo ⟨h1, h2⟩)
        · exact .inl (isD_lt (by simpa using h1))
      clear hgo
      have bad : i = 0 ∨ i = l.length ∨ l[i]? ≠ some 58 ∨ 16384 < v ∨ (l[0]? = some 48 ∧ 1 < i) → lenN l = 0 ∧ lenH l = 0 ∧ lenB l = false := fun h =>
        len_no (prog_len_no hA.out (Nat.le_of_lt hlt) hx.out (by rw [hV.out]; exact h))
      have hB := Lib.hid bad
      clear bad
      by_cases hi0 : i = 0
      · obtain ⟨r1, r2, r3⟩ := hB.out (.inl hi0)
        have q5 : (bcells l)[0]? = some [.ex (.int .u8 c.toNat)] := by rw [← hi0]; exact q4
        (repeat' (first | refine awp_seq ?_ | refine awp_block ?_ | (refine awp_ret ?_; simp only [then_ret, block_ret, end_ret]) | ((first | refine vplain ?_ | refine vcond ?_ | refine awp_exit ?_ | refine awp_skip ?_ | refine And.intro (by first | omega | assumption | exact setOk_ge (by decide +kernel)) ?_ | refine nqif_ways (fun h => ?_) ?_ | ((first | refine gif_ways (fun h => ?_) (fun h => ?_) | refine cif_ways (fun h => ?_) (fun h => ?_)) <;> (try simp only [sxn] at h) <;> (try (exfalso; omega)))) <;> (try (simp (disch := omega) only [sx, Value.oneCell', ↓reduceIte, Nat.reduceAdd, Nat.reduceMul, Nat.reduceEqDiff, Nat.reduceLT, Nat.reduceLeDiff, Int.reduceToNat, Int.reduceEq, Int.reduceLT, Int.reduceLE, Int.reduceNe, *])))))
        all_goals simp only [sxd, z0, p0, Nat.reduceEqDiff, ↓reduceIte, Tryd.f48, *]
      · have e1 : l[0]? = some l[0] := List.getElem?_eq_getElem (by omega)
        generalize l[0] = z at e1
        have q5 := bcells_get? e1
        by_cases hc : c.toNat = 58
        · by_cases hv2 : v ≤ 16384
          · by_cases hz : z.toNat = 48 ∧ 1 < i
            · obtain ⟨hz1, hz2⟩ := hz
              obtain ⟨r1, r2, r3⟩ := hB.out (.inr (.inr (.inr (.inr ⟨by rw [e1, u8_eq.2 (show z.toNat = (48 : UInt8).toNat from hz1)], hz2⟩))))
              (repeat' (first | refine awp_seq ?_ | refine awp_block ?_ | (refine awp_ret ?_; simp only [then_ret, block_ret, end_ret]) | ((first | refine vplain ?_ | refine vcond ?_ | refine awp_exit ?_ | refine awp_skip ?_ | refine And.intro (by first | omega | assumption | exact setOk_ge (by decide +kernel)) ?_ | refine nqif_ways (fun h => ?_) ?_ | ((first | refine gif_ways (fun h => ?_) (fun h => ?_) | refine cif_ways (fun h => ?_) (fun h => ?_)) <;> (try simp only [sxn] at h) <;> (try (exfalso; omega)))) <;> (try (simp (disch := omega) only [sx, Value.oneCell', ↓reduceIte, Nat.reduceAdd, Nat.reduceMul, Nat.reduceEqDiff, Nat.reduceLT, Nat.reduceLeDiff, Int.reduceToNat, Int.reduceEq, Int.reduceLT, Int.reduceLE, Int.reduceNe, *])))))
              all_goals simp only [sxd, z0, p0, Nat.reduceEqDiff, ↓reduceIte, Tryd.f48, *]
            · obtain ⟨f1, f2⟩ := prog_len_ok hA.out (by rw [hV.out]; exact hv2) hi0 (by rw [e0, u8_eq.2 (show c.toNat = (58 : UInt8).toNat from hc)]) (fun ⟨g1, g2⟩ => hz ⟨by rw [e1] at g1; rw [Option.some.inj g1]; rfl, g2⟩)
              obtain ⟨r1, r2, r3⟩ := len_ok f1
              rw [hV.out] at r1
              rw [f2] at r2
              have r2' : lenH l = (i : Int) + 1 := by omega
              have hz' : ¬ (z.toNat : Int) = 48 ∨ i ≤ 1 := by omega
              clear hz f1 f2 r2
              (repeat' (first | refine awp_seq ?_ | refine awp_block ?_ | (refine awp_ret ?_; simp only [then_ret, block_ret, end_ret]) | ((first | refine vplain ?_ | refine vcond ?_ | refine awp_exit ?_ | refine awp_skip ?_ | refine And.intro (by first | omega | assumption | exact setOk_ge (by decide +kernel)) ?_ | refine nqif_ways (fun h => ?_) ?_ | ((first | refine gif_ways (fun h => ?_) (fun h => ?_) | refine cif_ways (fun h => ?_) (fun h => ?_)) <;> (try simp only [sxn] at h) <;> (try (exfalso; omega)))) <;> (try (simp (disch := omega) only [sx, Value.oneCell', ↓reduceIte, Nat.reduceAdd, Nat.reduceMul, Nat.reduceEqDiff, Nat.reduceLT, Nat.reduceLeDiff, Int.reduceToNat, Int.reduceEq, Int.reduceLT, Int.reduceLE, Int.reduceNe, *])))))
              all_goals simp only [sxd, z0, p0, Nat.reduceEqDiff, ↓reduceIte, Tryd.f48, *]
          · obtain ⟨r1, r2, r3⟩ := hB.out (.inr (.inr (.inr (.inl (by omega)))))
            (repeat' (first | refine awp_seq ?_ | refine awp_block ?_ | (refine awp_ret ?_; simp only [then_ret, block_ret, end_ret]) | ((first | refine vplain ?_ | refine vcond ?_ | refine awp_exit ?_ | refine awp_skip ?_ | refine And.intro (by first | omega | assumption | exact setOk_ge (by decide +kernel)) ?_ | refine nqif_ways (fun h => ?_) ?_ | ((first | refine gif_ways (fun h => ?_) (fun h => ?_) | refine cif_ways (fun h => ?_) (fun h => ?_)) <;> (try simp only [sxn] at h) <;> (try (exfalso; omega)))) <;> (try (simp (disch := omega) only [sx, Value.oneCell', ↓reduceIte, Nat.reduceAdd, Nat.reduceMul, Nat.reduceEqDiff, Nat.reduceLT, Nat.reduceLeDiff, Int.reduceToNat, Int.reduceEq, Int.reduceLT, Int.reduceLE, Int.reduceNe, *])))))
            all_goals simp only [sxd, z0, p0, Nat.reduceEqDiff, ↓reduceIte, Tryd.f48, *]
        · obtain ⟨r1, r2, r3⟩ := hB.out (.inr (.inr (.inl (by rw [e0]; intro e; exact hc (by rw [Option.some.inj e]; rfl)))))
          (repeat' (first | refine awp_seq ?_ | refine awp_block ?_ | (refine awp_ret ?_; simp only [then_ret, block_ret, end_ret]) | ((first | refine vplain ?_ | refine vcond ?_ | refine awp_exit ?_ | refine awp_skip ?_ | refine And.intro (by first | omega | assumption | exact setOk_ge (by decide +kernel)) ?_ | refine nqif_ways (fun h => ?_) ?_ | ((first | refine gif_ways (fun h => ?_) (fun h => ?_) | refine cif_ways (fun h => ?_) (fun h => ?_)) <;> (try simp only [sxn] at h) <;> (try (exfalso; omega)))) <;> (try (simp (disch := omega) only [sx, Value.oneCell', ↓reduceIte, Nat.reduceAdd, Nat.reduceMul, Nat.reduceEqDiff, Nat.reduceLT, Nat.reduceLeDiff, Int.reduceToNat, Int.reduceEq, Int.reduceLT, Int.reduceLE, Int.reduceNe, *])))))
          all_goals simp only [sxd, z0, p0, Nat.reduceEqDiff, ↓reduceIte, Tryd.f48, *]
  · have hx : ¬ (∃ c, l[i]? = some c ∧ isD c = true ∧ natV 0 (l.take i) ≤ 16384) := by
      rintro ⟨c', f1, _⟩
      exact hlt (List.getElem?_eq_some_iff.1 f1).1
    obtain ⟨r1, r2, r3⟩ := len_no (prog_len_no hA.out hil hx (.inr (.inl (by omega))))
    clear hx
    (repeat' (first | refine awp_seq ?_ | refine awp_block ?_ | (refine awp_ret ?_; simp only [then_ret, block_ret, end_ret]) | ((first | refine vplain ?_ | refine vcond ?_ | refine awp_exit ?_ | refine awp_skip ?_ | refine And.intro (by first | omega | assumption | exact setOk_ge (by decide +kernel)) ?_ | refine nqif_ways (fun h => ?_) ?_ | ((first | refine gif_ways (fun h => ?_) (fun h => ?_) | refine cif_ways (fun h => ?_) (fun h => ?_)) <;> (try simp only [sxn] at h) <;> (try (exfalso; omega)))) <;> (try (simp (disch := omega) only [sx, Value.oneCell', ↓reduceIte, Nat.reduceAdd, Nat.reduceMul, Nat.reduceEqDiff, Nat.reduceLT, Nat.reduceLeDiff, Int.reduceToNat, Int.reduceEq, Int.reduceLT, Int.reduceLE, Int.reduceNe, *])))))
    all_goals simp only [sxd, z0, p0, Nat.reduceEqDiff, ↓reduceIte, Tryd.f48, *]

theorem nat_head {l : List UInt8} {c : UInt8} (e : l[0]? = some c) (h : l.all isD = true) (hc : c.toNat ≠ 48) : natL l = true := by
  unfold natL
  rw [h, Bool.true_and, Bool.or_eq_true]
  refine .inr ?_
  have h2 : decide (l.head? = some 48) = false := by
    rw [decide_eq_false_iff_not, head_at e]
    exact fun e => hc (by rw [Option.some.inj e]; rfl)
  have h1 : l.isEmpty = false := by
    cases l with
    | nil => cases e
    | cons _ _ => rfl
  rw [h1, h2]; rfl
theorem nat_zero {l : List UInt8} {c : UInt8} (e : l[0]? = some c) (h : l.all isD = true) (hc : c.toNat = 48) : natL l = decide (l = [48]) := by
  unfold natL
  rw [h, Bool.true_and, head_at e, u8_eq.2 (show c.toNat = (48 : UInt8).toNat from hc)]
  simp
theorem nat_bad {l : List UInt8} (h : l.all isD = false) : natL l = false := by unfold natL; rw [h]; rfl
theorem eq_list (s : ByteArray) (x : List UInt8) : (s = ⟨x.toArray⟩) = (s.data.toList = x) := propext ⟨fun h => by rw [h], fun h => bytes_ext h⟩

theorem Natural_con (s : ByteArray) (hs : s.size ≤ maxLen) : Con Tryd.prog CtxP 52 [.ex (.string s)] (.val (.ex (.bool (natL s.data.toList)))) := by
  refine con_val base Tryd.func52 rfl rfl (by kernel_rfl) (Nat.le_of_ble_eq_true rfl) ?_
  rw [init_eq]
  have hs' := max63 hs
  (repeat' (first | refine awp_seq ?_ | refine awp_block ?_ | (refine awp_ret ?_; simp only [then_ret, block_ret, end_ret]) | ((first | refine vplain ?_ | refine vcond ?_ | refine awp_exit ?_ | refine awp_skip ?_ | refine And.intro (by first | omega | assumption | exact setOk_ge (by decide +kernel)) ?_ | refine nqif_ways (fun h => ?_) ?_ | ((first | refine gif_ways (fun h => ?_) (fun h => ?_) | refine cif_ways (fun h => ?_) (fun h => ?_)) <;> (try simp only [sxn] at h) <;> (try (exfalso; omega)))) <;> (try (simp (disch := omega) only [sx, Value.oneCell', ↓reduceIte, Nat.reduceAdd, Nat.reduceMul, Nat.reduceEqDiff, Nat.reduceLT, Nat.reduceLeDiff, Int.reduceToNat, Int.reduceEq, Int.reduceLT, Int.reduceLE, Int.reduceNe, *])))))
  refine vloop (fun n tm hp nx => ∃ k : Nat, n = s.size - k ∧ k ≤ s.size ∧ tm 0 = .ex (.string s) ∧ tm 3 = .ex (.int .i64 k) ∧ Hid ((s.data.toList.take k).all isD = true)) s.size ⟨0, rfl, Nat.zero_le _, by (first | rfl | (simp (disch := omega) only [sx, natS, ↓reduceIte, Nat.reduceAdd, Nat.reduceEqDiff, Nat.reduceLeDiff, *])), by (first | rfl | (simp (disch := omega) only [sx, natS, ↓reduceIte, Nat.reduceAdd, Nat.reduceEqDiff, Nat.reduceLeDiff, *])), Lib.hid rfl⟩ ?_
  rintro n tm hp nx ⟨k, hn, hkl, g0, g3, hH⟩
  by_cases hlt : k < s.size
  · have f1 := byte_at s k hlt
    generalize hc : s[k]'hlt = c at f1
    cases hD : isD c with
    | true =>
      obtain ⟨d1, d2⟩ := isD_ge hD
      have hnx := Lib.hid (all_next f1 hH.out hD)
      (repeat' (first | refine awp_seq ?_ | refine awp_block ?_ | (refine awp_ret ?_; simp only [then_ret, block_ret, end_ret]) | ((first | refine vplain ?_ | refine vcond ?_ | refine awp_exit ?_ | refine awp_skip ?_ | refine And.intro (by first | omega | assumption | exact setOk_ge (by decide +kernel)) ?_ | refine nqif_ways (fun h => ?_) ?_ | ((first | refine gif_ways (fun h => ?_) (fun h => ?_) | refine cif_ways (fun h => ?_) (fun h => ?_)) <;> (try simp only [sxn] at h) <;> (try (exfalso; omega)))) <;> (try (simp (disch := omega) only [sx, Value.oneCell', ↓reduceIte, Nat.reduceAdd, Nat.reduceMul, Nat.reduceEqDiff, Nat.reduceLT, Nat.reduceLeDiff, Int.reduceToNat, Int.reduceEq, Int.reduceLT, Int.reduceLE, Int.reduceNe, *])))))
      exact kround_i (s.size - (k + 1)) (by omega) ⟨k + 1, rfl, by omega, by (first | rfl | (simp (disch := omega) only [sx, natS, ↓reduceIte, Nat.reduceAdd, Nat.reduceEqDiff, Nat.reduceLeDiff, *])), by (first | rfl | (simp (disch := omega) only [sx, natS, ↓reduceIte, Nat.reduceAdd, Nat.reduceEqDiff, Nat.reduceLeDiff, *])), hnx⟩
    | false =>
      have d1 := isD_lt hD
      have hr : natL s.data.toList = false := nat_bad (all_bad f1 hD)
      (repeat' (first | refine awp_seq ?_ | refine awp_block ?_ | (refine awp_ret ?_; simp only [then_ret, block_ret, end_ret]) | ((first | refine vplain ?_ | refine vcond ?_ | refine awp_exit ?_ | refine awp_skip ?_ | refine And.intro (by first | omega | assumption | exact setOk_ge (by decide +kernel)) ?_ | refine nqif_ways (fun h => ?_) ?_ | ((first | refine gif_ways (fun h => ?_) (fun h => ?_) | refine cif_ways (fun h => ?_) (fun h => ?_)) <;> (try simp only [sxn] at h) <;> (try (exfalso; omega)))) <;> (try (simp (disch := omega) only [sx, Value.oneCell', ↓reduceIte, Nat.reduceAdd, Nat.reduceMul, Nat.reduceEqDiff, Nat.reduceLT, Nat.reduceLeDiff, Int.reduceToNat, Int.reduceEq, Int.reduceLT, Int.reduceLE, Int.reduceNe, *])))))
      all_goals simp only [sxd, z0, p0, Nat.reduceEqDiff, ↓reduceIte, Tryd.f52, *]
  · have ha := all_end (l := s.data.toList) (by rw [size_toList]; omega) hH.out
    by_cases s0 : s.size = 0
    · have hr : natL s.data.toList = false := by
        have : s.data.toList = [] := List.eq_nil_of_length_eq_zero (by rw [size_toList]; exact s0)
        rw [this]; rfl
      have te : (s = ⟨#[48]⟩) = False := eq_false fun e => by rw [e] at s0; cases s0
      (repeat' (first | refine awp_seq ?_ | refine awp_block ?_ | (refine awp_ret ?_; simp only [then_ret, block_ret, end_ret]) | ((first | refine vplain ?_ | refine vcond ?_ | refine awp_exit ?_ | refine awp_skip ?_ | refine And.intro (by first | omega | assumption | exact setOk_ge (by decide +kernel)) ?_ | refine nqif_ways (fun h => ?_) ?_ | ((first | refine gif_ways (fun h => ?_) (fun h => ?_) | refine cif_ways (fun h => ?_) (fun h => ?_)) <;> (try simp only [sxn] at h) <;> (try (exfalso; omega)))) <;> (try (simp (disch := omega) only [sx, Value.oneCell', ↓reduceIte, Nat.reduceAdd, Nat.reduceMul, Nat.reduceEqDiff, Nat.reduceLT, Nat.reduceLeDiff, Int.reduceToNat, Int.reduceEq, Int.reduceLT, Int.reduceLE, Int.reduceNe, *])))))
      all_goals simp only [sxd, z0, p0, Nat.reduceEqDiff, ↓reduceIte, Tryd.f52, *]
    · have f0 := byte_at s 0 (by omega)
      generalize hx : s[0]'(by omega) = x at f0
      by_cases hz : x.toNat = 48
      · have hr := Lib.hid (nat_zero f0 ha hz)
        have hz3 : (x.toNat : Int) = 48 := by omega
        clear hz
        by_cases h1 : s = ⟨#[48]⟩
        · have te : (s = ⟨#[48]⟩) = True := eq_true h1
          have hr2 : natL s.data.toList = true := by rw [hr.out, decide_eq_true_eq]; rw [h1]
          clear h1 ha
          (repeat' (first | refine awp_seq ?_ | refine awp_block ?_ | (refine awp_ret ?_; simp only [then_ret, block_ret, end_ret]) | ((first | refine vplain ?_ | refine vcond ?_ | refine awp_exit ?_ | refine awp_skip ?_ | refine And.intro (by first | omega | assumption | exact setOk_ge (by decide +kernel)) ?_ | refine nqif_ways (fun h => ?_) ?_ | ((first | refine gif_ways (fun h => ?_) (fun h => ?_) | refine cif_ways (fun h => ?_) (fun h => ?_)) <;> (try simp only [sxn] at h) <;> (try (exfalso; omega)))) <;> (try (simp (disch := omega) only [sx, Value.oneCell', ↓reduceIte, Nat.reduceAdd, Nat.reduceMul, Nat.reduceEqDiff, Nat.reduceLT, Nat.reduceLeDiff, Int.reduceToNat, Int.reduceEq, Int.reduceLT, Int.reduceLE, Int.reduceNe, *])))))
          all_goals simp only [sxd, z0, p0, Nat.reduceEqDiff, ↓reduceIte, Tryd.f52, *]
        · have te : (s = ⟨#[48]⟩) = False := eq_false h1
          have hr2 : natL s.data.toList = false := by
            rw [hr.out, decide_eq_false_iff_not]
            exact fun e => h1 (bytes_ext e)
          clear h1 ha
          (repeat' (first | refine awp_seq ?_ | refine awp_block ?_ | (refine awp_ret ?_; simp only [then_ret, block_ret, end_ret]) | ((first | refine vplain ?_ | refine vcond ?_ | refine awp_exit ?_ | refine awp_skip ?_ | refine And.intro (by first | omega | assumption | exact setOk_ge (by decide +kernel)) ?_ | refine nqif_ways (fun h => ?_) ?_ | ((first | refine gif_ways (fun h => ?_) (fun h => ?_) | refine cif_ways (fun h => ?_) (fun h => ?_)) <;> (try simp only [sxn] at h) <;> (try (exfalso; omega)))) <;> (try (simp (disch := omega) only [sx, Value.oneCell', ↓reduceIte, Nat.reduceAdd, Nat.reduceMul, Nat.reduceEqDiff, Nat.reduceLT, Nat.reduceLeDiff, Int.reduceToNat, Int.reduceEq, Int.reduceLT, Int.reduceLE, Int.reduceNe, *])))))
          all_goals simp only [sxd, z0, p0, Nat.reduceEqDiff, ↓reduceIte, Tryd.f52, *]
      · have hr : natL s.data.toList = true := nat_head f0 ha hz
        have te : (s = ⟨#[48]⟩) = False := eq_false fun e => by
          have : s.data.toList = [48] := by rw [e]
          rw [this] at f0
          simp at f0
          exact hz (by rw [← f0]; rfl)
        have hz' : ¬ (x.toNat : Int) = 48 := by omega
        clear ha
        (repeat' (first | refine awp_seq ?_ | refine awp_block ?_ | (refine awp_ret ?_; simp only [then_ret, block_ret, end_ret]) | ((first | refine vplain ?_ | refine vcond ?_ | refine awp_exit ?_ | refine awp_skip ?_ | refine And.intro (by first | omega | assumption | exact setOk_ge (by decide +kernel)) ?_ | refine nqif_ways (fun h => ?_) ?_ | ((first | refine gif_ways (fun h => ?_) (fun h => ?_) | refine cif_ways (fun h => ?_) (fun h => ?_)) <;> (try simp only [sxn] at h) <;> (try (exfalso; omega)))) <;> (try (simp (disch := omega) only [sx, Value.oneCell', ↓reduceIte, Nat.reduceAdd, Nat.reduceMul, Nat.reduceEqDiff, Nat.reduceLT, Nat.reduceLeDiff, Int.reduceToNat, Int.reduceEq, Int.reduceLT, Int.reduceLE, Int.reduceNe, *])))))
        all_goals simp only [sxd, z0, p0, Nat.reduceEqDiff, ↓reduceIte, Tryd.f52, *]
end Go.Proofs.YtfpknhhhjgdjbaaDoor
namespace Go.Proofs.YtfpknhhhjgdjbaaDoor
open Go.RowKit
set_option maxRecDepth 100000

def firstT (s : List UInt8) : ByteArray := match lenF s with
  | some n => if s.length < headN s + n then ⟨#[]⟩ else textF s n
  | none => ⟨#[]⟩
def firstN (s : List UInt8) : Int := match lenF s with
  | some n => if s.length < headN s + n then 0 else (headN s + n : Nat)
  | none => 0
def firstE (s : List UInt8) : Int := match lenF s with
  | some n => if s.length < headN s + n then 24 else 0
  | none => 2
theorem first_syntax {s : List UInt8} (h : lenF s = none) : firstT s = ⟨#[]⟩ ∧ firstN s = 0 ∧ firstE s = 2 := by simp [firstT, firstN, firstE, h]
theorem first_trunc {s : List UInt8} {n : Nat} (h : lenF s = some n) (h1 : s.length < headN s + n) : firstT s = ⟨#[]⟩ ∧ firstN s = 0 ∧ firstE s = 24 := by simp [firstT, firstN, firstE, h, h1]
theorem first_ok {s : List UInt8} {n : Nat} (h : lenF s = some n) (h1 : ¬ s.length < headN s + n) : firstT s = textF s n ∧ firstN s = (headN s + n : Nat) ∧ firstE s = 0 := by simp [firstT, firstN, firstE, h, h1]
theorem text_of {s : ByteArray} {k n : Nat} (hk : headN s.data.toList = k + 1) (ha : ∀ a b, (s.extract a b).data.toList = (s.data.toList.take b).drop a) : s.extract (k + 1) (k + 1 + n) = textF s.data.toList n := by
  refine bytes_ext ?_
  rw [ha]
  show _ = (⟨((s.data.toList.take (headN s.data.toList + n)).drop (headN s.data.toList)).toArray⟩ : ByteArray).data.toList
  rw [hk]

theorem sizes_next {l : List ByteArray} {k : Nat} {t : ByteArray} (e : l[k]? = some t) : sizes (l.take (k + 1)) = sizes (l.take k) + t.size := by
  rw [List.take_add_one, e, sizes_app]
  simp [sizes]
theorem sizes_end {l : List ByteArray} {k : Nat} (h : l.length ≤ k) : sizes (l.take k) = sizes l := by rw [List.take_of_length_le h]
theorem sizes_mem : ∀ {l : List ByteArray} {s : ByteArray}, s ∈ l → s.size ≤ sizes l
  | [], _, h => by cases h
  | x :: l, s, h => by
    rw [sizes_cons]
    rcases List.mem_cons.1 h with rfl | h
    · omega
    · have := sizes_mem h; omega
theorem itoaBs_next {l : List Int} {k : Nat} {n : Int} (e : l[k]? = some n) : itoaBs (l.take (k + 1)) = itoaBs (l.take k) ++ [⟨(Lib.itoa n).toArray⟩] := by
  unfold itoaBs
  rw [List.take_add_one, e, List.map_append]
  rfl
theorem itoaBs_packs {l : List Int} (h : ∀ n ∈ l, -9223372036854775808 ≤ n ∧ n ≤ 9223372036854775807) : (packB (itoaBs l)).length ≤ 43 * l.length := by
  have h1 := itoaBs_sizes h
  have h2 := packB_len (itoaBs l) fun s hs => Nat.le_trans (h1 s hs) (by decide)
  have h3 := sizes_bound h1
  rw [itoaBs_len] at h2 h3
  omega
theorem pack_next {l : List ByteArray} {k : Nat} {t : ByteArray} (e : l[k]? = some t) : packB (l.take (k + 1)) = packB (l.take k) ++ pack1 t := by
  rw [List.take_add_one, e, packB_append]
  simp [packB]
/-- Numbers in a row. -/
def ints (l : List Int) : List (List AV) := l.map fun n => [.ex (.int .i64 n)]
theorem ints_len (l : List Int) : (ints l).length = l.length := by simp [ints]
theorem ints_app (a b : List Int) : ints (a ++ b) = ints a ++ ints b := by simp [ints]
theorem ints_get {l : List Int} {k : Nat} {n : Int} (e : l[k]? = some n) : (ints l)[k]? = some [.ex (.int .i64 n)] := by rw [ints, List.getElem?_map, e]; rfl
theorem ints_all (l : List Int) : ∀ x ∈ ints l, x.length = 1 := by
  intro x hx
  simp only [ints, List.mem_map] at hx
  obtain ⟨c, _, rfl⟩ := hx
  rfl
theorem xor_max (n : Int) (h0 : 0 ≤ n) (h1 : n ≤ 18446744073709551615) : IntKind.u64.wrap ((BitVec.ofInt IntKind.u64.bits 18446744073709551615 ^^^ BitVec.ofInt IntKind.u64.bits n).toNat : Int) = 18446744073709551615 - n := by
  have e1 : (BitVec.ofInt IntKind.u64.bits 18446744073709551615) = BitVec.allOnes 64 := by show BitVec.ofInt 64 18446744073709551615 = BitVec.allOnes 64; decide +kernel
  have e2 : IntKind.u64.bits = 64 := rfl
  have e3 : (BitVec.allOnes 64 ^^^ BitVec.ofInt 64 n) = ~~~ (BitVec.ofInt 64 n) := BitVec.allOnes_xor
  have e4 : (BitVec.ofInt 64 n).toNat = n.toNat := by rw [BitVec.toNat_ofInt]; omega
  rw [e1]
  show IntKind.u64.wrap ((BitVec.allOnes 64 ^^^ BitVec.ofInt 64 n).toNat : Int) = _
  rw [e3, BitVec.toNat_not, e4]
  have e5 : ((2 ^ 64 - 1 - n.toNat : Nat) : Int) = 18446744073709551615 - n := by omega
  rw [e5]
  unfold IntKind.wrap
  simp [IntKind.signed, IntKind.bits]
  omega
theorem not_i64 (v : Nat) (h0 : 1 ≤ v) (h1 : v ≤ 9223372036854775808) : IntKind.i64.wrap (IntKind.u64.wrap (IntKind.u64.wrap ↑(BitVec.ofInt IntKind.u64.bits (if IntKind.u64.signed = true then -1 else IntKind.u64.max) ^^^ BitVec.ofInt IntKind.u64.bits (v : Int)).toNat + 1)) = -(v : Int) := by
  have e0 : (if IntKind.u64.signed = true then (-1 : Int) else IntKind.u64.max) = 18446744073709551615 := rfl
  rw [e0, xor_max v (by omega) (by omega)]
  unfold IntKind.wrap
  simp [IntKind.signed, IntKind.bits]
  omega
theorem quo10 (L d : Int) (h0 : 0 ≤ d) (h1 : d ≤ 9) (h2 : 9 ≤ L) (h3 : L ≤ 18446744073709551615) : IntKind.u64.wrap ((L - (48 + d - 48)).tdiv 10) = (L - d) / 10 := by
  rw [show L - (48 + d - 48) = L - d by omega, Int.tdiv_eq_ediv_of_nonneg (by omega)]
  unfold IntKind.wrap
  simp [IntKind.signed, IntKind.bits]
  omega
end Go.Proofs.YtfpknhhhjgdjbaaDoor
namespace Go.Proofs.YtfpknhhhjgdjbaaDoor
open Go.RowKit
set_option maxRecDepth 100000
set_option linter.unusedSimpArgs false

theorem repL_exs {φ : Phi} {M : Nat → Prop} {w : World} : ∀ {rs : List Value}, (∀ r ∈ rs, r.oneCell' = true) → RepL φ M w (rs.map .ex) rs
  | [], _ => RepL.nil
  | r :: rs, h => RepL.cons (ex_rep r (h r (by simp))) (repL_exs fun x hx => h x (by simp [hx]))
theorem con_tup {P : Program} {C : World → Prop} {f : Nat} {vs rs : List Value} (hc : Callable P f) (hr : ∀ r ∈ rs, r.oneCell' = true) (h : ∀ w, C w → Calls P f vs.toArray w fun e w' => e = .returned (.tuple rs.toArray) ∧ Below w.heap.size w w') : Con P C f (vs.map .ex) (.val (.tup (rs.map .ex))) := by
  refine ⟨hc, fun M w args _ hw ha => ?_⟩
  rw [rep0_ex ha]
  refine (h w hw).mono ?_
  rintro e w' ⟨rfl, hb⟩
  refine ⟨_, rfl, ?_, hb⟩
  simp only [Rep]
  exact ⟨rs, rfl, repL_exs hr⟩
theorem Con.calls_ex {P : Program} {C : World → Prop} {f : Nat} {vs : List Value} {r : Value} (h : Con P C f (vs.map .ex) (.val (.ex r))) (hv : ∀ v ∈ vs, v.oneCell' = true) (w : World) (hw : C w) : Calls P f vs.toArray w fun e w' => e = .returned r ∧ Below w.heap.size w w' := by
  refine (h.2 (fun _ => False) w vs (fun _ h => h.elim) hw (repL_exs hv)).mono ?_
  rintro e w' ⟨v, rfl, hr, hb⟩
  simp only [Rep] at hr
  rw [hr.1]
  exact ⟨rfl, hb⟩
theorem decimal_any (s : ByteArray) (hs : s.size ≤ maxLen) (w : World) (hw : Ctx w) : Calls Tryd.prog 50 #[.string s] w fun e w' => e = .returned (.bool (decL s.data.toList)) ∧ Below w.heap.size w w' :=
  Con.calls_ex (vs := [.string s]) (decimal_con s hs) (by intro v hv; simp at hv; rw [hv]; rfl) w hw.p
theorem takeE_no {l : List UInt8} (h : decL l = false) : takeE l = 2 ∧ takeV l = 0 := by simp [takeE, takeV, h]
theorem takeE_big {l : List UInt8} (h : decL l = true) (h2 : fitL l = false) : takeE l = 6 ∧ takeV l = 0 := by simp [takeE, takeV, h, h2]
theorem takeE_ok {l : List UInt8} (h : decL l = true) (h2 : fitL l = true) : takeE l = 0 ∧ takeV l = if negL l = true then -(natV 0 (digL l) : Int) else natV 0 (digL l) := by simp [takeE, takeV, h, h2]

theorem TakeInt_any (s : ByteArray) (hs : s.size ≤ 140737488355328) (w : World) (hw : Ctx w) : Calls Tryd.prog 22 #[.string s] w fun e w' => e = .returned (.tuple #[.int .i64 (takeV s.data.toList), .int .i64 (takeE s.data.toList)]) ∧ Below w.heap.size w w' := by
  have hd := Lib.hid (decimal_any s (Nat.le_trans hs (by decide)))
  go_enter Tryd.func22, Tryd.ntmps22
  go_wp2_with fail
  refine (hd.out _ hw).mono ?_
  rintro e w1 ⟨rfl, hb⟩
  have hw1 := Lib.hid (hw.on hb)
  have B1 := Lib.hid hb
  clear hb hd
  cases hD : decL s.data.toList with
  | false =>
    obtain ⟨r1, r2⟩ := takeE_no hD
    have R1 := Lib.hid r1
    have R2 := Lib.hid r2
    clear r1 r2
    go_wp2
    go_ret2
    exact ⟨by rw [R1.out, R2.out]; rfl, B1.out⟩
  | true =>
    cases hF : fitL s.data.toList with
    | false =>
      obtain ⟨r1, r2⟩ := takeE_big hD hF
      have hA := Lib.hid (by have := atoi_dec hD; rw [hF] at this; exact this : Lib.atoiAll s.data.toList = .range)
      obtain ⟨te, pe, hv⟩ := hw1.out.here.errR
      have hC := Lib.hid (Tryd.strconv_Atoi_range s (by omega) hA.out _ w1 hv (.inr ⟨te, pe, rfl⟩))
      have R1 := Lib.hid r1
      have R2 := Lib.hid r2
      clear r1 r2 hv
      go_wp2_with fail
      refine hC.out.mono ?_
      rintro e w2 ⟨N, rfl, hN, hc, hb⟩
      have B2 := Lib.hid (B1.out.trans (hb.mono B1.out.size))
      clear hb hc
      go_wp2
      go_ret2
      exact ⟨by rw [R1.out, R2.out]; rfl, B2.out⟩
    | true =>
      obtain ⟨r1, r2⟩ := takeE_ok hD hF
      have hA := Lib.hid (by have := atoi_dec hD; rw [hF] at this; exact this : Lib.atoiAll s.data.toList = .ok (takeV s.data.toList))
      have hC := Lib.hid (Tryd.strconv_Atoi_ok s (by omega) _ hA.out w1)
      have R1 := Lib.hid r1
      clear r1 r2
      go_wp2_with fail
      refine hC.out.mono ?_
      rintro e w2 ⟨rfl, hor⟩
      have B2 := Lib.hid (show Below w.heap.size w w2 from by
        rcases hor with rfl | ⟨t, rfl⟩
        · exact B1.out
        · exact B1.out.trans ((Lib.bytesWorld_below _ _ _).mono B1.out.size))
      clear hor
      go_wp2
      go_ret2
      exact ⟨by rw [R1.out]; rfl, B2.out⟩
theorem TakeInt_con (s : ByteArray) (hs : s.size ≤ 140737488355328) : Con Tryd.prog Ctx 22 [.ex (.string s)] (.val (.tup [.ex (.int .i64 (takeV s.data.toList)), .ex (.int .i64 (takeE s.data.toList))])) :=
  con_tup (vs := [.string s]) (rs := [.int .i64 _, .int .i64 _]) ⟨_, Tryd.func22, rfl, rfl⟩ (by intro r hr; simp at hr; rcases hr with rfl | rfl <;> rfl) fun w hw => TakeInt_any s hs w hw

theorem natV_take_le (l : List UInt8) (k : Nat) : natV 0 (l.take k) ≤ natV 0 l := by
  have h := natV_app (l.take k) (l.drop k) 0
  rw [List.take_append_drop] at h
  rw [h]
  exact natV_ge _ _
theorem fit_no {l d : List UInt8} {k v L : Nat} (hd : digL l = d) (h : natV 0 (d.take k) = v) (hv : L < v) (hL : L = if negL l = true then 9223372036854775808 else 9223372036854775807) : fitL l = false := by
  have := natV_take_le d k
  unfold fitL
  rw [hd, decide_eq_false_iff_not]
  omega
theorem fit_yes {l d : List UInt8} {k v L : Nat} (hd : digL l = d) (hk : d.length ≤ k) (h : natV 0 (d.take k) = v) (hv : v ≤ L) (hL : L = if negL l = true then 9223372036854775808 else 9223372036854775807) : fitL l = true ∧ natV 0 (digL l) = v := by
  rw [List.take_of_length_le hk] at h
  unfold fitL
  rw [hd, decide_eq_true_eq]
  exact ⟨by omega, h⟩
theorem dec_of_nat {l d : List UInt8} (hd : digL l = d) (h1 : natL d = true) (h2 : negL l = false ∨ d ≠ [48]) : decL l = true := by
  unfold decL
  rw [hd, h1, Bool.true_and]
  rcases h2 with h2 | h2 <;> simp [h2]
theorem dec_no_nat {l d : List UInt8} (hd : digL l = d) (h1 : natL d = false ∨ (negL l = true ∧ d = [48])) : decL l = false := by
  unfold decL
  rw [hd]
  rcases h1 with h1 | ⟨h1, h2⟩
  · simp [h1]
  · simp [h1, h2]
theorem nat_pos {d : List UInt8} (h1 : natL d = true) (h2 : d ≠ [48]) : 1 ≤ natV 0 d := by
  apply Classical.byContradiction
  intro h
  have h0 : natV 0 d = 0 := by omega
  have := dec_nat d.length d (Nat.le_refl _) h1
  rw [h0] at this
  exact h2 (by rw [← this]; decide +kernel)

theorem RTakeInt_con (s : ByteArray) (hs : s.size ≤ maxLen) : Con Tryd.prog CtxP 23 [.ex (.string s)] (.val (.tup [.ex (.int .i64 (takeV s.data.toList)), .ex (.int .i64 (takeE s.data.toList))])) := by
  refine con_val base Tryd.func23 rfl rfl (by kernel_rfl) (Nat.le_of_ble_eq_true rfl) ?_
  rw [init_eq]
  have hs' := max63 hs
  by_cases s0 : s.size = 0
  · have hr : decL s.data.toList = false := by
      have : s.data.toList = [] := List.eq_nil_of_length_eq_zero (by rw [size_toList]; exact s0)
      rw [this]; rfl
    have hn : natL s.data.toList = false := by
      have : s.data.toList = [] := List.eq_nil_of_length_eq_zero (by rw [size_toList]; exact s0)
      rw [this]; rfl
    obtain ⟨r1, r2⟩ := takeE_no hr
    clear hr
    (repeat' (first | refine awp_seq ?_ | refine awp_block ?_ | (refine awp_ret ?_; simp only [then_ret, block_ret, end_ret]) | ((first | refine call_val (by first | (simp only [sxd, z0, p0, Nat.reduceEqDiff, ↓reduceIte]; (try rfl); done) | (simp (disch := omega) only [sxd, z0, p0, sx, Value.oneCell', ↓reduceIte, Nat.reduceAdd, Nat.reduceMul, Nat.reduceEqDiff, Nat.reduceLT, Nat.reduceLeDiff, Int.reduceToNat, Int.reduceEq, Int.reduceLT, Int.reduceLE, Int.reduceNe, *]; (try rfl); done)) (Natural_con s hs) ?_ | refine vplain ?_ | refine vcond ?_ | refine awp_exit ?_ | refine awp_skip ?_ | refine And.intro (by first | omega | assumption | exact setOk_ge (by decide +kernel)) ?_ | refine nqif_ways (fun h => ?_) ?_ | ((first | refine gif_ways (fun h => ?_) (fun h => ?_) | refine cif_ways (fun h => ?_) (fun h => ?_)) <;> (try simp only [sxn] at h) <;> (try (exfalso; omega)))) <;> (try (simp (disch := omega) only [sx, Value.oneCell', ↓reduceIte, Nat.reduceAdd, Nat.reduceMul, Nat.reduceEqDiff, Nat.reduceLT, Nat.reduceLeDiff, Int.reduceToNat, Int.reduceEq, Int.reduceLT, Int.reduceLE, Int.reduceNe, *])))))
    all_goals simp only [sxd, z0, p0, Nat.reduceEqDiff, ↓reduceIte, Tryd.f23, *]
  have e0 := byte_at s 0 (by omega)
  by_cases hneg : (s[0]'(by omega)).toNat = 45
  · have hn : negL s.data.toList = true := by unfold negL; rw [head_at e0, decide_eq_true_eq, u8_eq.2 (show (s[0]'(by omega)).toNat = (45 : UInt8).toNat from hneg)]
    have hd0 : digL s.data.toList = s.data.toList.drop 1 := by unfold digL; rw [if_pos hn]
    obtain ⟨t, ht⟩ : ∃ t, s.extract 1 s.size = t := ⟨_, rfl⟩
    have hd : Hid (digL s.data.toList = t.data.toList) := Lib.hid (by rw [hd0, ← ht, tail_list])
    have htl : t.size + 1 = s.size := by rw [← size_toList t, ← hd.out, hd0, List.length_drop, size_toList]; omega
    have hts : t.size ≤ maxLen := by omega
    have hneg' : ((s[0]'(by omega)).toNat : Int) = 45 := by omega
    have hN := Lib.hid hn
    clear hn hd0 e0 hneg
    cases hna : natL t.data.toList with
    | false =>
      obtain ⟨r1, r2⟩ := takeE_no (dec_no_nat hd.out (.inl hna))
      (repeat' (first | refine awp_seq ?_ | refine awp_block ?_ | (refine awp_ret ?_; simp only [then_ret, block_ret, end_ret]) | ((first | refine call_val (by first | (simp only [sxd, z0, p0, Nat.reduceEqDiff, ↓reduceIte]; (try rfl); done) | (simp (disch := omega) only [sxd, z0, p0, sx, Value.oneCell', ↓reduceIte, Nat.reduceAdd, Nat.reduceMul, Nat.reduceEqDiff, Nat.reduceLT, Nat.reduceLeDiff, Int.reduceToNat, Int.reduceEq, Int.reduceLT, Int.reduceLE, Int.reduceNe, *]; (try rfl); done)) (Natural_con t hts) ?_ | refine vplain ?_ | refine vcond ?_ | refine awp_exit ?_ | refine awp_skip ?_ | refine And.intro (by first | omega | assumption | exact setOk_ge (by decide +kernel)) ?_ | refine nqif_ways (fun h => ?_) ?_ | ((first | refine gif_ways (fun h => ?_) (fun h => ?_) | refine cif_ways (fun h => ?_) (fun h => ?_)) <;> (try simp only [sxn] at h) <;> (try (exfalso; omega)))) <;> (try (simp (disch := omega) only [sx, Value.oneCell', ↓reduceIte, Nat.reduceAdd, Nat.reduceMul, Nat.reduceEqDiff, Nat.reduceLT, Nat.reduceLeDiff, Int.reduceToNat, Int.reduceEq, Int.reduceLT, Int.reduceLE, Int.reduceNe, *])))))
      all_goals simp only [sxd, z0, p0, Nat.reduceEqDiff, ↓reduceIte, Tryd.f23, *]
    | true =>
      by_cases hz : t = ⟨#[48]⟩
      · obtain ⟨r1, r2⟩ := takeE_no (dec_no_nat hd.out (.inr ⟨hN.out, by rw [hz]⟩))
        have te : (t = ⟨#[48]⟩) = True := eq_true hz
        clear hz
        (repeat' (first | refine awp_seq ?_ | refine awp_block ?_ | (refine awp_ret ?_; simp only [then_ret, block_ret, end_ret]) | ((first | refine call_val (by first | (simp only [sxd, z0, p0, Nat.reduceEqDiff, ↓reduceIte]; (try rfl); done) | (simp (disch := omega) only [sxd, z0, p0, sx, Value.oneCell', ↓reduceIte, Nat.reduceAdd, Nat.reduceMul, Nat.reduceEqDiff, Nat.reduceLT, Nat.reduceLeDiff, Int.reduceToNat, Int.reduceEq, Int.reduceLT, Int.reduceLE, Int.reduceNe, *]; (try rfl); done)) (Natural_con t hts) ?_ | refine vplain ?_ | refine vcond ?_ | refine awp_exit ?_ | refine awp_skip ?_ | refine And.intro (by first | omega | assumption | exact setOk_ge (by decide +kernel)) ?_ | refine nqif_ways (fun h => ?_) ?_ | ((first | refine gif_ways (fun h => ?_) (fun h => ?_) | refine cif_ways (fun h => ?_) (fun h => ?_)) <;> (try simp only [sxn] at h) <;> (try (exfalso; omega)))) <;> (try (simp (disch := omega) only [sx, Value.oneCell', ↓reduceIte, Nat.reduceAdd, Nat.reduceMul, Nat.reduceEqDiff, Nat.reduceLT, Nat.reduceLeDiff, Int.reduceToNat, Int.reduceEq, Int.reduceLT, Int.reduceLE, Int.reduceNe, *])))))
        all_goals simp only [sxd, z0, p0, Nat.reduceEqDiff, ↓reduceIte, Tryd.f23, *]
      · have te : (t = ⟨#[48]⟩) = False := eq_false hz
        have hz2 : t.data.toList ≠ [48] := fun e => hz (bytes_ext e)
        have hD := Lib.hid (dec_of_nat hd.out hna (.inr hz2))
        have hpos := Lib.hid (nat_pos hna hz2)
        have hall := Lib.hid (natL_all hna)
        clear hz hz2
        (repeat' (first | refine awp_seq ?_ | refine awp_block ?_ | (refine awp_ret ?_; simp only [then_ret, block_ret, end_ret]) | ((first | refine call_val (by first | (simp only [sxd, z0, p0, Nat.reduceEqDiff, ↓reduceIte]; (try rfl); done) | (simp (disch := omega) only [sxd, z0, p0, sx, Value.oneCell', ↓reduceIte, Nat.reduceAdd, Nat.reduceMul, Nat.reduceEqDiff, Nat.reduceLT, Nat.reduceLeDiff, Int.reduceToNat, Int.reduceEq, Int.reduceLT, Int.reduceLE, Int.reduceNe, *]; (try rfl); done)) (Natural_con t hts) ?_ | refine vplain ?_ | refine vcond ?_ | refine awp_exit ?_ | refine awp_skip ?_ | refine And.intro (by first | omega | assumption | exact setOk_ge (by decide +kernel)) ?_ | refine nqif_ways (fun h => ?_) ?_ | ((first | refine gif_ways (fun h => ?_) (fun h => ?_) | refine cif_ways (fun h => ?_) (fun h => ?_)) <;> (try simp only [sxn] at h) <;> (try (exfalso; omega)))) <;> (try (simp (disch := omega) only [sx, Value.oneCell', ↓reduceIte, Nat.reduceAdd, Nat.reduceMul, Nat.reduceEqDiff, Nat.reduceLT, Nat.reduceLeDiff, Int.reduceToNat, Int.reduceEq, Int.reduceLT, Int.reduceLE, Int.reduceNe, *])))))
        all_goals
          refine vloop (fun n tm hp nx => ∃ k v : Nat, n = t.size - k ∧ k ≤ t.size ∧ tm 5 = .ex (.string t) ∧ tm 4 = .ex (.bool true) ∧ tm 6 = .ex (.int .u64 9223372036854775808) ∧ tm 7 = .ex (.int .u64 v) ∧ tm 8 = .ex (.int .i64 k) ∧ v ≤ 9223372036854775808 ∧ Hid (natV 0 (t.data.toList.take k) = v)) t.size ⟨0, 0, rfl, Nat.zero_le _, by (first | rfl | (simp (disch := omega) only [sx, natS, ↓reduceIte, Nat.reduceAdd, Nat.reduceEqDiff, Nat.reduceLeDiff, *])), by (first | rfl | (simp (disch := omega) only [sx, natS, ↓reduceIte, Nat.reduceAdd, Nat.reduceEqDiff, Nat.reduceLeDiff, *])), by (first | rfl | (simp (disch := omega) only [sx, natS, ↓reduceIte, Nat.reduceAdd, Nat.reduceEqDiff, Nat.reduceLeDiff, *])), by (first | rfl | (simp (disch := omega) only [sx, natS, ↓reduceIte, Nat.reduceAdd, Nat.reduceEqDiff, Nat.reduceLeDiff, *])), by (first | rfl | (simp (disch := omega) only [sx, natS, ↓reduceIte, Nat.reduceAdd, Nat.reduceEqDiff, Nat.reduceLeDiff, *])), by omega, Lib.hid rfl⟩ ?_
          rintro n tm hp nx ⟨k, v, hn, hkl, g5, g4, g6, g7, g8, hv, hH⟩
          by_cases hlt : k < t.size
          · have f1 := byte_at t k hlt
            generalize hc : t[k]'hlt = c at f1
            obtain ⟨d, d1, -, -, d4⟩ := isD_inv (List.all_eq_true.1 hall.out c (List.mem_of_getElem? f1))
            have hnx := Lib.hid (natV_next f1 hH.out d4)
            have d4' : (c.toNat : Int) = 48 + d := by omega
            have dq := quo10 9223372036854775808 d (by omega) (by omega) (by omega) (by omega)
            clear d4 f1
            by_cases ho : v * 10 + d ≤ 9223372036854775808
            · (repeat' (first | refine awp_seq ?_ | refine awp_block ?_ | (refine awp_ret ?_; simp only [then_ret, block_ret, end_ret]) | ((first | refine vplain ?_ | refine vcond ?_ | refine awp_exit ?_ | refine awp_skip ?_ | refine And.intro (by first | omega | assumption | exact setOk_ge (by decide +kernel)) ?_ | refine nqif_ways (fun h => ?_) ?_ | ((first | refine gif_ways (fun h => ?_) (fun h => ?_) | refine cif_ways (fun h => ?_) (fun h => ?_)) <;> (try simp only [sxn] at h) <;> (try (exfalso; omega)))) <;> (try (simp (disch := omega) only [sx, Value.oneCell', ↓reduceIte, Nat.reduceAdd, Nat.reduceMul, Nat.reduceEqDiff, Nat.reduceLT, Nat.reduceLeDiff, Int.reduceToNat, Int.reduceEq, Int.reduceLT, Int.reduceLE, Int.reduceNe, *])))))
              exact kround_i (t.size - (k + 1)) (by omega) ⟨k + 1, v * 10 + d, rfl, by omega, by (first | rfl | (simp (disch := omega) only [sx, natS, ↓reduceIte, Nat.reduceAdd, Nat.reduceEqDiff, Nat.reduceLeDiff, *])), by (first | rfl | (simp (disch := omega) only [sx, natS, ↓reduceIte, Nat.reduceAdd, Nat.reduceEqDiff, Nat.reduceLeDiff, *])), by (first | rfl | (simp (disch := omega) only [sx, natS, ↓reduceIte, Nat.reduceAdd, Nat.reduceEqDiff, Nat.reduceLeDiff, *])), by (simp (disch := omega) only [sx, Value.oneCell', ↓reduceIte, Nat.reduceAdd, Nat.reduceMul, Nat.reduceEqDiff, Nat.reduceLT, Nat.reduceLeDiff, Int.reduceToNat, Int.reduceEq, Int.reduceLT, Int.reduceLE, Int.reduceNe, natS, *]; congr 2; omega), by (first | rfl | (simp (disch := omega) only [sx, natS, ↓reduceIte, Nat.reduceAdd, Nat.reduceEqDiff, Nat.reduceLeDiff, *])), by omega, hnx⟩
            · obtain ⟨r1, r2⟩ := takeE_big hD.out (fit_no hd.out hnx.out (Nat.lt_of_not_le ho) (by rw [hN.out]; rfl))
              (repeat' (first | refine awp_seq ?_ | refine awp_block ?_ | (refine awp_ret ?_; simp only [then_ret, block_ret, end_ret]) | ((first | refine vplain ?_ | refine vcond ?_ | refine awp_exit ?_ | refine awp_skip ?_ | refine And.intro (by first | omega | assumption | exact setOk_ge (by decide +kernel)) ?_ | refine nqif_ways (fun h => ?_) ?_ | ((first | refine gif_ways (fun h => ?_) (fun h => ?_) | refine cif_ways (fun h => ?_) (fun h => ?_)) <;> (try simp only [sxn] at h) <;> (try (exfalso; omega)))) <;> (try (simp (disch := omega) only [sx, Value.oneCell', ↓reduceIte, Nat.reduceAdd, Nat.reduceMul, Nat.reduceEqDiff, Nat.reduceLT, Nat.reduceLeDiff, Int.reduceToNat, Int.reduceEq, Int.reduceLT, Int.reduceLE, Int.reduceNe, *])))))
              all_goals simp only [sxd, z0, p0, Nat.reduceEqDiff, ↓reduceIte, Tryd.f23, *]
          · obtain ⟨h1, h2⟩ := fit_yes hd.out (by rw [size_toList]; omega) hH.out hv (by rw [hN.out]; rfl)
            obtain ⟨r1, r2⟩ := takeE_ok hD.out h1
            rw [hN.out, if_pos rfl, h2] at r2
            have hp1 := hpos.out
            rw [hd.out] at h2
            rw [h2] at hp1
            have x1 := not_i64 v hp1 hv
            clear h1 h2
            (repeat' (first | refine awp_seq ?_ | refine awp_block ?_ | (refine awp_ret ?_; simp only [then_ret, block_ret, end_ret]) | ((first | refine vplain ?_ | refine vcond ?_ | refine awp_exit ?_ | refine awp_skip ?_ | refine And.intro (by first | omega | assumption | exact setOk_ge (by decide +kernel)) ?_ | refine nqif_ways (fun h => ?_) ?_ | ((first | refine gif_ways (fun h => ?_) (fun h => ?_) | refine cif_ways (fun h => ?_) (fun h => ?_)) <;> (try simp only [sxn] at h) <;> (try (exfalso; omega)))) <;> (try (simp (disch := omega) only [sx, Value.oneCell', ↓reduceIte, Nat.reduceAdd, Nat.reduceMul, Nat.reduceEqDiff, Nat.reduceLT, Nat.reduceLeDiff, Int.reduceToNat, Int.reduceEq, Int.reduceLT, Int.reduceLE, Int.reduceNe, *])))))
            all_goals simp only [sxd, z0, p0, Nat.reduceEqDiff, ↓reduceIte, Tryd.f23, *]
  · have hn : negL s.data.toList = false := by
      unfold negL
      rw [head_at e0, decide_eq_false_iff_not]
      intro e
      exact hneg (by rw [Option.some.inj e]; rfl)
    have hd : Hid (digL s.data.toList = s.data.toList) := Lib.hid (by unfold digL; rw [if_neg (by rw [hn]; simp)])
    have hN := Lib.hid hn
    have hneg' : ¬ ((s[0]'(by omega)).toNat : Int) = 45 := by omega
    clear hn e0
    cases hna : natL s.data.toList with
    | false =>
      obtain ⟨r1, r2⟩ := takeE_no (dec_no_nat hd.out (.inl hna))
      (repeat' (first | refine awp_seq ?_ | refine awp_block ?_ | (refine awp_ret ?_; simp only [then_ret, block_ret, end_ret]) | ((first | refine call_val (by first | (simp only [sxd, z0, p0, Nat.reduceEqDiff, ↓reduceIte]; (try rfl); done) | (simp (disch := omega) only [sxd, z0, p0, sx, Value.oneCell', ↓reduceIte, Nat.reduceAdd, Nat.reduceMul, Nat.reduceEqDiff, Nat.reduceLT, Nat.reduceLeDiff, Int.reduceToNat, Int.reduceEq, Int.reduceLT, Int.reduceLE, Int.reduceNe, *]; (try rfl); done)) (Natural_con s hs) ?_ | refine vplain ?_ | refine vcond ?_ | refine awp_exit ?_ | refine awp_skip ?_ | refine And.intro (by first | omega | assumption | exact setOk_ge (by decide +kernel)) ?_ | refine nqif_ways (fun h => ?_) ?_ | ((first | refine gif_ways (fun h => ?_) (fun h => ?_) | refine cif_ways (fun h => ?_) (fun h => ?_)) <;> (try simp only [sxn] at h) <;> (try (exfalso; omega)))) <;> (try (simp (disch := omega) only [sx, Value.oneCell', ↓reduceIte, Nat.reduceAdd, Nat.reduceMul, Nat.reduceEqDiff, Nat.reduceLT, Nat.reduceLeDiff, Int.reduceToNat, Int.reduceEq, Int.reduceLT, Int.reduceLE, Int.reduceNe, *])))))
      all_goals simp only [sxd, z0, p0, Nat.reduceEqDiff, ↓reduceIte, Tryd.f23, *]
    | true =>
      have hD := Lib.hid (dec_of_nat hd.out hna (.inl hN.out))
      have hall := Lib.hid (natL_all hna)
      (repeat' (first | refine awp_seq ?_ | refine awp_block ?_ | (refine awp_ret ?_; simp only [then_ret, block_ret, end_ret]) | ((first | refine call_val (by first | (simp only [sxd, z0, p0, Nat.reduceEqDiff, ↓reduceIte]; (try rfl); done) | (simp (disch := omega) only [sxd, z0, p0, sx, Value.oneCell', ↓reduceIte, Nat.reduceAdd, Nat.reduceMul, Nat.reduceEqDiff, Nat.reduceLT, Nat.reduceLeDiff, Int.reduceToNat, Int.reduceEq, Int.reduceLT, Int.reduceLE, Int.reduceNe, *]; (try rfl); done)) (Natural_con s hs) ?_ | refine vplain ?_ | refine vcond ?_ | refine awp_exit ?_ | refine awp_skip ?_ | refine And.intro (by first | omega | assumption | exact setOk_ge (by decide +kernel)) ?_ | refine nqif_ways (fun h => ?_) ?_ | ((first | refine gif_ways (fun h => ?_) (fun h => ?_) | refine cif_ways (fun h => ?_) (fun h => ?_)) <;> (try simp only [sxn] at h) <;> (try (exfalso; omega)))) <;> (try (simp (disch := omega) only [sx, Value.oneCell', ↓reduceIte, Nat.reduceAdd, Nat.reduceMul, Nat.reduceEqDiff, Nat.reduceLT, Nat.reduceLeDiff, Int.reduceToNat, Int.reduceEq, Int.reduceLT, Int.reduceLE, Int.reduceNe, *])))))
      all_goals
        refine vloop (fun n tm hp nx => ∃ k v : Nat, n = s.size - k ∧ k ≤ s.size ∧ tm 5 = .ex (.string s) ∧ tm 4 = .ex (.bool false) ∧ tm 6 = .ex (.int .u64 9223372036854775807) ∧ tm 7 = .ex (.int .u64 v) ∧ tm 8 = .ex (.int .i64 k) ∧ v ≤ 9223372036854775807 ∧ Hid (natV 0 (s.data.toList.take k) = v)) s.size ⟨0, 0, rfl, Nat.zero_le _, by (first | rfl | (simp (disch := omega) only [sx, natS, ↓reduceIte, Nat.reduceAdd, Nat.reduceEqDiff, Nat.reduceLeDiff, *])), by (first | rfl | (simp (disch := omega) only [sx, natS, ↓reduceIte, Nat.reduceAdd, Nat.reduceEqDiff, Nat.reduceLeDiff, *])), by (first | rfl | (simp (disch := omega) only [sx, natS, ↓reduceIte, Nat.reduceAdd, Nat.reduceEqDiff, Nat.reduceLeDiff, *])), by (first | rfl | (simp (disch := omega) only [sx, natS, ↓reduceIte, Nat.reduceAdd, Nat.reduceEqDiff, Nat.reduceLeDiff, *])), by (first | rfl | (simp (disch := omega) only [sx, natS, ↓reduceIte, Nat.reduceAdd, Nat.reduceEqDiff, Nat.reduceLeDiff, *])), by omega, Lib.hid rfl⟩ ?_
        rintro n tm hp nx ⟨k, v, hn, hkl, g5, g4, g6, g7, g8, hv, hH⟩
        by_cases hlt : k < s.size
        · have f1 := byte_at s k hlt
          generalize hc : s[k]'hlt = c at f1
          obtain ⟨d, d1, -, -, d4⟩ := isD_inv (List.all_eq_true.1 hall.out c (List.mem_of_getElem? f1))
          have hnx := Lib.hid (natV_next f1 hH.out d4)
          have d4' : (c.toNat : Int) = 48 + d := by omega
          have dq := quo10 9223372036854775807 d (by omega) (by omega) (by omega) (by omega)
          clear d4 f1
          by_cases ho : v * 10 + d ≤ 9223372036854775807
          · (repeat' (first | refine awp_seq ?_ | refine awp_block ?_ | (refine awp_ret ?_; simp only [then_ret, block_ret, end_ret]) | ((first | refine vplain ?_ | refine vcond ?_ | refine awp_exit ?_ | refine awp_skip ?_ | refine And.intro (by first | omega | assumption | exact setOk_ge (by decide +kernel)) ?_ | refine nqif_ways (fun h => ?_) ?_ | ((first | refine gif_ways (fun h => ?_) (fun h => ?_) | refine cif_ways (fun h => ?_) (fun h => ?_)) <;> (try simp only [sxn] at h) <;> (try (exfalso; omega)))) <;> (try (simp (disch := omega) only [sx, Value.oneCell', ↓reduceIte, Nat.reduceAdd, Nat.reduceMul, Nat.reduceEqDiff, Nat.reduceLT, Nat.reduceLeDiff, Int.reduceToNat, Int.reduceEq, Int.reduceLT, Int.reduceLE, Int.reduceNe, *])))))
            exact kround_i (s.size - (k + 1)) (by omega) ⟨k + 1, v * 10 + d, rfl, by omega, by (first | rfl | (simp (disch := omega) only [sx, natS, ↓reduceIte, Nat.reduceAdd, Nat.reduceEqDiff, Nat.reduceLeDiff, *])), by (first | rfl | (simp (disch := omega) only [sx, natS, ↓reduceIte, Nat.reduceAdd, Nat.reduceEqDiff, Nat.reduceLeDiff, *])), by (first | rfl | (simp (disch := omega) only [sx, natS, ↓reduceIte, Nat.reduceAdd, Nat.reduceEqDiff, Nat.reduceLeDiff, *])), by (simp (disch := omega) only [sx, Value.oneCell', ↓reduceIte, Nat.reduceAdd, Nat.reduceMul, Nat.reduceEqDiff, Nat.reduceLT, Nat.reduceLeDiff, Int.reduceToNat, Int.reduceEq, Int.reduceLT, Int.reduceLE, Int.reduceNe, natS, *]; congr 2; omega), by (first | rfl | (simp (disch := omega) only [sx, natS, ↓reduceIte, Nat.reduceAdd, Nat.reduceEqDiff, Nat.reduceLeDiff, *])), by omega, hnx⟩
          · obtain ⟨r1, r2⟩ := takeE_big hD.out (fit_no hd.out hnx.out (Nat.lt_of_not_le ho) (by rw [hN.out]; rfl))
            (repeat' (first | refine awp_seq ?_ | refine awp_block ?_ | (refine awp_ret ?_; simp only [then_ret, block_ret, end_ret]) | ((first | refine vplain ?_ | refine vcond ?_ | refine awp_exit ?_ | refine awp_skip ?_ | refine And.intro (by first | omega | assumption | exact setOk_ge (by decide +kernel)) ?_ | refine nqif_ways (fun h => ?_) ?_ | ((first | refine gif_ways (fun h => ?_) (fun h => ?_) | refine cif_ways (fun h => ?_) (fun h => ?_)) <;> (try simp only [sxn] at h) <;> (try (exfalso; omega)))) <;> (try (simp (disch := omega) only [sx, Value.oneCell', ↓reduceIte, Nat.reduceAdd, Nat.reduceMul, Nat.reduceEqDiff, Nat.reduceLT, Nat.reduceLeDiff, Int.reduceToNat, Int.reduceEq, Int.reduceLT, Int.reduceLE, Int.reduceNe, *])))))
            all_goals simp only [sxd, z0, p0, Nat.reduceEqDiff, ↓reduceIte, Tryd.f23, *]
        · obtain ⟨h1, h2⟩ := fit_yes hd.out (by rw [size_toList]; omega) hH.out hv (by rw [hN.out]; rfl)
          obtain ⟨r1, r2⟩ := takeE_ok hD.out h1
          rw [hN.out, if_neg (by simp), h2] at r2
          clear h1 h2
          (repeat' (first | refine awp_seq ?_ | refine awp_block ?_ | (refine awp_ret ?_; simp only [then_ret, block_ret, end_ret]) | ((first | refine vplain ?_ | refine vcond ?_ | refine awp_exit ?_ | refine awp_skip ?_ | refine And.intro (by first | omega | assumption | exact setOk_ge (by decide +kernel)) ?_ | refine nqif_ways (fun h => ?_) ?_ | ((first | refine gif_ways (fun h => ?_) (fun h => ?_) | refine cif_ways (fun h => ?_) (fun h => ?_)) <;> (try simp only [sxn] at h) <;> (try (exfalso; omega)))) <;> (try (simp (disch := omega) only [sx, Value.oneCell', ↓reduceIte, Nat.reduceAdd, Nat.reduceMul, Nat.reduceEqDiff, Nat.reduceLT, Nat.reduceLeDiff, Int.reduceToNat, Int.reduceEq, Int.reduceLT, Int.reduceLE, Int.reduceNe, *])))))
          all_goals simp only [sxd, z0, p0, Nat.reduceEqDiff, ↓reduceIte, Tryd.f23, *]
end Go.Proofs.YtfpknhhhjgdjbaaDoor
namespace Go.Proofs.YtfpknhhhjgdjbaaDoor
open Go.RowKit
set_option maxRecDepth 100000
set_option linter.unusedSimpArgs false

theorem texts_len (l : List ByteArray) : (texts l).length = l.length := by simp [texts]
theorem texts_app (a b : List ByteArray) : texts (a ++ b) = texts a ++ texts b := by simp [texts]
theorem texts_app1 (a : List ByteArray) (t : ByteArray) : texts (a ++ [t]) = texts a ++ [[.ex (.string t)]] := by simp [texts]
theorem texts_get {l : List ByteArray} {k : Nat} {t : ByteArray} (e : l[k]? = some t) : (texts l)[k]? = some [.ex (.string t)] := by rw [texts, List.getElem?_map, e]; rfl
theorem texts_all (l : List ByteArray) : ∀ x ∈ texts l, x.length = 1 := by
  intro x hx
  simp only [texts, List.mem_map] at hx
  obtain ⟨c, _, rfl⟩ := hx
  rfl
theorem texts_p0 (l : List ByteArray) : ((texts l).all (·.all p0)) = true := by
  rw [List.all_eq_true]
  intro x hx
  simp only [texts, List.mem_map] at hx
  obtain ⟨m, _, rfl⟩ := hx
  rfl
theorem texts_z0 (l : List ByteArray) : (texts l).map (·.map z0) = texts l := by
  rw [texts, List.map_map]
  exact List.map_congr_left fun m _ => rfl
theorem ints_app1 (a : List Int) (n : Int) : ints (a ++ [n]) = ints a ++ [[.ex (.int .i64 n)]] := by simp [ints]
theorem ints_p0 (l : List Int) : ((ints l).all (·.all p0)) = true := by
  rw [List.all_eq_true]
  intro x hx
  simp only [ints, List.mem_map] at hx
  obtain ⟨m, _, rfl⟩ := hx
  rfl
theorem ints_z0 (l : List Int) : (ints l).map (·.map z0) = ints l := by
  rw [ints, List.map_map]
  exact List.map_congr_left fun m _ => rfl
theorem bcells_cut (l : List UInt8) (a b : Nat) : ((bcells l).take b).drop a = bcells ((l.take b).drop a) := by simp [bcells]

theorem first_con (s : ByteArray) (hs : s.size ≤ 140737488355328) : Con Tryd.prog CtxP 49 [.ex (.string s)] (.val (.tup [.ex (.string (firstT s.data.toList)), .ex (.int .i64 (firstN s.data.toList)), .ex (.int .i64 (firstE s.data.toList))])) := by
  refine con_val base Tryd.func49 rfl rfl (by kernel_rfl) (Nat.le_of_ble_eq_true rfl) ?_
  rw [init_eq]
  have hs' : s.size ≤ 9223372036854775807 := by omega
  (repeat' (first | refine awp_seq ?_ | refine awp_block ?_ | (refine awp_ret ?_; simp only [then_ret, block_ret, end_ret]) | ((first | refine vplain ?_ | refine vcond ?_ | refine awp_exit ?_ | refine awp_skip ?_ | refine And.intro (by first | omega | assumption | exact setOk_ge (by decide +kernel)) ?_ | refine nqif_ways (fun h => ?_) ?_ | ((first | refine gif_ways (fun h => ?_) (fun h => ?_) | refine cif_ways (fun h => ?_) (fun h => ?_)) <;> (try simp only [sxn] at h) <;> (try (exfalso; omega)))) <;> (try (simp (disch := omega) only [sx, Value.oneCell', ↓reduceIte, Nat.reduceAdd, Nat.reduceMul, Nat.reduceEqDiff, Nat.reduceLT, Nat.reduceLeDiff, Int.reduceToNat, Int.reduceEq, Int.reduceLT, Int.reduceLE, Int.reduceNe, *])))))
  refine vloop (fun n tm hp nx => ∃ k : Nat, n = s.size - k ∧ k ≤ s.size ∧ tm 0 = .ex (.string s) ∧ tm 5 = .ex (.int .i64 k) ∧ Hid ((cutL s.data.toList).length = k + (cutL (s.data.toList.drop k)).length)) s.size ⟨0, rfl, Nat.zero_le _, by (first | rfl | (simp (disch := omega) only [sx, natS, ↓reduceIte, Nat.reduceAdd, Nat.reduceEqDiff, Nat.reduceLeDiff, *])), by (first | rfl | (simp (disch := omega) only [sx, natS, ↓reduceIte, Nat.reduceAdd, Nat.reduceEqDiff, Nat.reduceLeDiff, *])), Lib.hid (by simp)⟩ ?_
  rintro n tm hp nx ⟨k, hn, hkl, g0, g5, hH⟩
  by_cases hlt : k < s.size
  · have f1 := byte_at s k hlt
    generalize hc : s[k]'hlt = c at f1
    by_cases h58 : c.toNat = 58
    · have h58' : (c.toNat : Int) = 58 := by omega
      have hcl := Lib.hid (cut_scan_stop (by rw [f1, u8_eq.2 (show c.toNat = (58 : UInt8).toNat from h58)]) hH.out)
      clear h58 f1
      by_cases h6 : 6 < k
      · obtain ⟨r1, r2, r3⟩ := first_syntax (ref_len_long (by rw [hcl.out]; exact h6))
        (repeat' (first | refine awp_seq ?_ | refine awp_block ?_ | (refine awp_ret ?_; simp only [then_ret, block_ret, end_ret]) | ((first | refine vplain ?_ | refine vcond ?_ | refine awp_exit ?_ | refine awp_skip ?_ | refine And.intro (by first | omega | assumption | exact setOk_ge (by decide +kernel)) ?_ | refine nqif_ways (fun h => ?_) ?_ | ((first | refine gif_ways (fun h => ?_) (fun h => ?_) | refine cif_ways (fun h => ?_) (fun h => ?_)) <;> (try simp only [sxn] at h) <;> (try (exfalso; omega)))) <;> (try (simp (disch := omega) only [sx, Value.oneCell', ↓reduceIte, Nat.reduceAdd, Nat.reduceMul, Nat.reduceEqDiff, Nat.reduceLT, Nat.reduceLeDiff, Int.reduceToNat, Int.reduceEq, Int.reduceLT, Int.reduceLE, Int.reduceNe, *])))))
        all_goals simp only [sxd, z0, p0, Nat.reduceEqDiff, ↓reduceIte, Tryd.f49, *]
      · obtain ⟨t, ht⟩ : ∃ t, s.extract 0 k = t := ⟨_, rfl⟩
        have htl := Lib.hid (show t.data.toList = cutL s.data.toList by rw [← ht, ext_list, List.drop_zero, ← hcl.out, cut_take])
        have hts : t.size = k := by rw [← size_toList, htl.out, hcl.out]
        have htm : t.size ≤ maxLen := Nat.le_trans (show t.size ≤ 9223372036854775807 by omega) (by decide)
        have hlc := Lib.hid (show (cutL s.data.toList).length < s.data.toList.length by rw [hcl.out, size_toList]; exact hlt)
        by_cases hE : takeE t.data.toList = 0 ∧ 0 ≤ takeV t.data.toList ∧ takeV t.data.toList ≤ 16384
        · obtain ⟨n0, m1, m2⟩ := ref_len_ok hlc.out (by rw [← htl.out]; exact hE.1) (by rw [← htl.out]; exact hE.2.1) (by rw [← htl.out]; exact hE.2.2)
          obtain ⟨e1, e2, e3⟩ := hE
          rw [← htl.out] at m2
          have hn0 : n0 ≤ 16384 := by omega
          have hh : headN s.data.toList = k + 1 := by unfold headN; rw [hcl.out]
          clear e2 e3
          by_cases hsh : s.size < k + 1 + n0
          · obtain ⟨r1, r2, r3⟩ := first_trunc m1 (by rw [size_toList, hh]; exact hsh)
            clear m1 hh
            (repeat' (first | refine awp_seq ?_ | refine awp_block ?_ | (refine awp_ret ?_; simp only [then_ret, block_ret, end_ret]) | ((first | refine call_val (by first | (simp only [sxd, z0, p0, Nat.reduceEqDiff, ↓reduceIte]; (try rfl); done) | (simp (disch := omega) only [sxd, z0, p0, sx, Value.oneCell', ↓reduceIte, Nat.reduceAdd, Nat.reduceMul, Nat.reduceEqDiff, Nat.reduceLT, Nat.reduceLeDiff, Int.reduceToNat, Int.reduceEq, Int.reduceLT, Int.reduceLE, Int.reduceNe, *]; (try rfl); done)) (RTakeInt_con t htm) ?_ | refine vplain ?_ | refine vcond ?_ | refine awp_exit ?_ | refine awp_skip ?_ | refine And.intro (by first | omega | assumption | exact setOk_ge (by decide +kernel)) ?_ | refine nqif_ways (fun h => ?_) ?_ | ((first | refine gif_ways (fun h => ?_) (fun h => ?_) | refine cif_ways (fun h => ?_) (fun h => ?_)) <;> (try simp only [sxn] at h) <;> (try (exfalso; omega)))) <;> (try (simp (disch := omega) only [sx, Value.oneCell', ↓reduceIte, Nat.reduceAdd, Nat.reduceMul, Nat.reduceEqDiff, Nat.reduceLT, Nat.reduceLeDiff, Int.reduceToNat, Int.reduceEq, Int.reduceLT, Int.reduceLE, Int.reduceNe, *])))))
            all_goals simp only [sxd, z0, p0, Nat.reduceEqDiff, ↓reduceIte, Tryd.f49, *]
          · obtain ⟨r1, r2, r3⟩ := first_ok m1 (by rw [size_toList, hh]; exact hsh)
            have hx := text_of (s := s) (k := k) (n := n0) hh (ext_list s)
            have t1 : ((k : Int) + 1).toNat = k + 1 := by omega
            have t2 : ((k : Int) + 1 + n0).toNat = k + 1 + n0 := by omega
            rw [hh] at r2
            have r2' : firstN s.data.toList = (k : Int) + 1 + n0 := by omega
            clear m1 hh r2
            (repeat' (first | refine awp_seq ?_ | refine awp_block ?_ | (refine awp_ret ?_; simp only [then_ret, block_ret, end_ret]) | ((first | refine call_val (by first | (simp only [sxd, z0, p0, Nat.reduceEqDiff, ↓reduceIte]; (try rfl); done) | (simp (disch := omega) only [sxd, z0, p0, sx, Value.oneCell', ↓reduceIte, Nat.reduceAdd, Nat.reduceMul, Nat.reduceEqDiff, Nat.reduceLT, Nat.reduceLeDiff, Int.reduceToNat, Int.reduceEq, Int.reduceLT, Int.reduceLE, Int.reduceNe, *]; (try rfl); done)) (RTakeInt_con t htm) ?_ | refine vplain ?_ | refine vcond ?_ | refine awp_exit ?_ | refine awp_skip ?_ | refine And.intro (by first | omega | assumption | exact setOk_ge (by decide +kernel)) ?_ | refine nqif_ways (fun h => ?_) ?_ | ((first | refine gif_ways (fun h => ?_) (fun h => ?_) | refine cif_ways (fun h => ?_) (fun h => ?_)) <;> (try simp only [sxn] at h) <;> (try (exfalso; omega)))) <;> (try (simp (disch := omega) only [sx, Value.oneCell', ↓reduceIte, Nat.reduceAdd, Nat.reduceMul, Nat.reduceEqDiff, Nat.reduceLT, Nat.reduceLeDiff, Int.reduceToNat, Int.reduceEq, Int.reduceLT, Int.reduceLE, Int.reduceNe, *])))))
            all_goals simp only [sxd, z0, p0, Nat.reduceEqDiff, ↓reduceIte, Tryd.f49, *]
        · have hno : ¬ takeE t.data.toList = 0 ∨ takeV t.data.toList < 0 ∨ 16384 < takeV t.data.toList := by omega
          obtain ⟨r1, r2, r3⟩ := first_syntax (ref_len_no (by rw [← htl.out]; exact hno))
          clear hE
          (repeat' (first | refine awp_seq ?_ | refine awp_block ?_ | (refine awp_ret ?_; simp only [then_ret, block_ret, end_ret]) | ((first | refine call_val (by first | (simp only [sxd, z0, p0, Nat.reduceEqDiff, ↓reduceIte]; (try rfl); done) | (simp (disch := omega) only [sxd, z0, p0, sx, Value.oneCell', ↓reduceIte, Nat.reduceAdd, Nat.reduceMul, Nat.reduceEqDiff, Nat.reduceLT, Nat.reduceLeDiff, Int.reduceToNat, Int.reduceEq, Int.reduceLT, Int.reduceLE, Int.reduceNe, *]; (try rfl); done)) (RTakeInt_con t htm) ?_ | refine vplain ?_ | refine vcond ?_ | refine awp_exit ?_ | refine awp_skip ?_ | refine And.intro (by first | omega | assumption | exact setOk_ge (by decide +kernel)) ?_ | refine nqif_ways (fun h => ?_) ?_ | ((first | refine gif_ways (fun h => ?_) (fun h => ?_) | refine cif_ways (fun h => ?_) (fun h => ?_)) <;> (try simp only [sxn] at h) <;> (try (exfalso; omega)))) <;> (try (simp (disch := omega) only [sx, Value.oneCell', ↓reduceIte, Nat.reduceAdd, Nat.reduceMul, Nat.reduceEqDiff, Nat.reduceLT, Nat.reduceLeDiff, Int.reduceToNat, Int.reduceEq, Int.reduceLT, Int.reduceLE, Int.reduceNe, *])))))
          all_goals simp only [sxd, z0, p0, Nat.reduceEqDiff, ↓reduceIte, Tryd.f49, *]
    · have hnx := Lib.hid (cut_scan_next f1 (fun e => h58 (by rw [e]; rfl)) hH.out)
      have h58' : ¬ (c.toNat : Int) = 58 := by omega
      clear h58 f1
      (repeat' (first | refine awp_seq ?_ | refine awp_block ?_ | (refine awp_ret ?_; simp only [then_ret, block_ret, end_ret]) | ((first | refine vplain ?_ | refine vcond ?_ | refine awp_exit ?_ | refine awp_skip ?_ | refine And.intro (by first | omega | assumption | exact setOk_ge (by decide +kernel)) ?_ | refine nqif_ways (fun h => ?_) ?_ | ((first | refine gif_ways (fun h => ?_) (fun h => ?_) | refine cif_ways (fun h => ?_) (fun h => ?_)) <;> (try simp only [sxn] at h) <;> (try (exfalso; omega)))) <;> (try (simp (disch := omega) only [sx, Value.oneCell', ↓reduceIte, Nat.reduceAdd, Nat.reduceMul, Nat.reduceEqDiff, Nat.reduceLT, Nat.reduceLeDiff, Int.reduceToNat, Int.reduceEq, Int.reduceLT, Int.reduceLE, Int.reduceNe, *])))))
      exact kround_i (s.size - (k + 1)) (by omega) ⟨k + 1, rfl, by omega, by (first | rfl | (simp (disch := omega) only [sx, natS, ↓reduceIte, Nat.reduceAdd, Nat.reduceEqDiff, Nat.reduceLeDiff, *])), by (first | rfl | (simp (disch := omega) only [sx, natS, ↓reduceIte, Nat.reduceAdd, Nat.reduceEqDiff, Nat.reduceLeDiff, *])), hnx⟩
  · have hcl := cut_scan_end (by rw [size_toList]; omega) hH.out
    obtain ⟨r1, r2, r3⟩ := first_syntax (ref_len_end (by rw [hcl, size_toList]; omega))
    clear hcl
    (repeat' (first | refine awp_seq ?_ | refine awp_block ?_ | (refine awp_ret ?_; simp only [then_ret, block_ret, end_ret]) | ((first | refine vplain ?_ | refine vcond ?_ | refine awp_exit ?_ | refine awp_skip ?_ | refine And.intro (by first | omega | assumption | exact setOk_ge (by decide +kernel)) ?_ | refine nqif_ways (fun h => ?_) ?_ | ((first | refine gif_ways (fun h => ?_) (fun h => ?_) | refine cif_ways (fun h => ?_) (fun h => ?_)) <;> (try simp only [sxn] at h) <;> (try (exfalso; omega)))) <;> (try (simp (disch := omega) only [sx, Value.oneCell', ↓reduceIte, Nat.reduceAdd, Nat.reduceMul, Nat.reduceEqDiff, Nat.reduceLT, Nat.reduceLeDiff, Int.reduceToNat, Int.reduceEq, Int.reduceLT, Int.reduceLE, Int.reduceNe, *])))))
    all_goals simp only [sxd, z0, p0, Nat.reduceEqDiff, ↓reduceIte, Tryd.f49, *]

theorem RUnpack_con (s : ByteArray) (hs : s.size ≤ 1000000) : Con Tryd.prog CtxP 20 [.ex (.string s)] (.val (.tup [.sl (texts (unpF s.data.toList).1), .ex (.int .i64 (unpF s.data.toList).2)])) := by
  refine con_val base Tryd.func20 rfl rfl (by kernel_rfl) (Nat.le_of_ble_eq_true rfl) ?_
  rw [init_eq]
  (repeat' (first | refine awp_seq ?_ | refine awp_block ?_ | (refine awp_ret ?_; simp only [then_ret, block_ret, end_ret]) | ((first | refine vplain ?_ | refine vbuildS (by simp only [tyb, elemOf_s]) (by simp only [tyb, sxb, Value.oneCell', Nat.reduceAdd, Nat.reduceMul, Nat.reduceLeDiff, Nat.reduceLT]) ?_ | refine vcond ?_ | refine awp_exit ?_ | refine awp_skip ?_ | refine And.intro (by first | omega | assumption | exact setOk_ge (by decide +kernel)) ?_ | refine nqif_ways (fun h => ?_) ?_ | ((first | refine gif_ways (fun h => ?_) (fun h => ?_) | refine cif_ways (fun h => ?_) (fun h => ?_)) <;> (try simp only [sxn] at h) <;> (try (exfalso; omega)))) <;> (try (simp (disch := omega) only [sx, Value.oneCell', ↓reduceIte, Nat.reduceAdd, Nat.reduceMul, Nat.reduceEqDiff, Nat.reduceLT, Nat.reduceLeDiff, Int.reduceToNat, Int.reduceEq, Int.reduceLT, Int.reduceLE, Int.reduceNe, *])))))
  refine vloop (fun n tm hp nx => ∃ (k b : Nat) (acc : List ByteArray), n = s.size - k ∧ k ≤ s.size ∧ tm 0 = .ex (.string s) ∧ tm 5 = .ex (.int .i64 k) ∧ acc.length ≤ k ∧ Hid (unpF s.data.toList = comb acc (unpF (s.data.toList.drop k))) ∧ tm 4 = .own b ∧ hp b = some ⟨9, texts acc, true⟩ ∧ b < nx) s.size ⟨0, _, [], rfl, Nat.zero_le _, by (first | rfl | (simp (disch := omega) only [sx, natS, ↓reduceIte, Nat.reduceAdd, Nat.reduceEqDiff, Nat.reduceLeDiff, *])), by (first | rfl | (simp (disch := omega) only [sx, natS, ↓reduceIte, Nat.reduceAdd, Nat.reduceEqDiff, Nat.reduceLeDiff, *])), Nat.zero_le _, Lib.hid (by rw [List.drop_zero, unp_comb]), by (simp (disch := omega) only [sx, Value.oneCell', ↓reduceIte, Nat.reduceAdd, Nat.reduceMul, Nat.reduceEqDiff, Nat.reduceLT, Nat.reduceLeDiff, Int.reduceToNat, Int.reduceEq, Int.reduceLT, Int.reduceLE, Int.reduceNe, natS, *]; rfl), by (first | rfl | (simp (disch := omega) only [sx, natS, ↓reduceIte, Nat.reduceAdd, Nat.reduceEqDiff, Nat.reduceLeDiff, *])), by omega⟩ ?_
  rintro n tm hp nx ⟨k, b, acc, hn, hkl, g0, g5, hac, hH, g4, g8, hb⟩
  have q3 := texts_len acc
  by_cases hlt : k < s.size
  · obtain ⟨t, ht⟩ : ∃ t, s.extract k s.size = t := ⟨_, rfl⟩
    have htl : t.data.toList = s.data.toList.drop k := by rw [← ht, ext_list, List.take_of_length_le (by rw [size_toList]; exact Nat.le_refl _)]
    have hts : t.size = s.size - k := by rw [← size_toList, htl, List.length_drop, size_toList]
    have htm : t.size ≤ 140737488355328 := by omega
    have h0 : t.data.toList ≠ [] := by
      intro e
      have := congrArg List.length e
      rw [size_toList, hts] at this
      simp at this
      omega
    have hH2 := Lib.hid (show unpF s.data.toList = comb acc (unpF t.data.toList) by rw [htl]; exact hH.out)
    have htl' := Lib.hid htl
    clear htl
    cases hF : lenF t.data.toList with
    | none =>
      obtain ⟨r1, r2, r3⟩ := first_syntax hF
      have hz := unp_stop2 h0 hF hH2.out
      clear h0 hF
      (repeat' (first | refine awp_seq ?_ | refine awp_block ?_ | (refine awp_ret ?_; simp only [then_ret, block_ret, end_ret]) | ((first | refine call_val (by first | (simp only [sxd, z0, p0, Nat.reduceEqDiff, ↓reduceIte]; (try rfl); done) | (simp (disch := omega) only [sxd, z0, p0, sx, Value.oneCell', ↓reduceIte, Nat.reduceAdd, Nat.reduceMul, Nat.reduceEqDiff, Nat.reduceLT, Nat.reduceLeDiff, Int.reduceToNat, Int.reduceEq, Int.reduceLT, Int.reduceLE, Int.reduceNe, *]; (try rfl); done)) (first_con t htm) ?_ | refine vplain ?_ | refine vbuildS (by simp only [tyb, elemOf_s]) (by simp only [tyb, sxb, Value.oneCell', Nat.reduceAdd, Nat.reduceMul, Nat.reduceLeDiff, Nat.reduceLT]) ?_ | refine vcond ?_ | refine awp_exit ?_ | refine awp_skip ?_ | refine And.intro (by first | omega | assumption | exact setOk_ge (by decide +kernel)) ?_ | refine nqif_ways (fun h => ?_) ?_ | ((first | refine gif_ways (fun h => ?_) (fun h => ?_) | refine cif_ways (fun h => ?_) (fun h => ?_)) <;> (try simp only [sxn] at h) <;> (try (exfalso; omega)))) <;> (try (simp (disch := omega) only [sx, Value.oneCell', ↓reduceIte, Nat.reduceAdd, Nat.reduceMul, Nat.reduceEqDiff, Nat.reduceLT, Nat.reduceLeDiff, Int.reduceToNat, Int.reduceEq, Int.reduceLT, Int.reduceLE, Int.reduceNe, *])))))
      all_goals simp only [sxd, z0, p0, Nat.reduceEqDiff, ↓reduceIte, Tryd.f20, *]
      all_goals rfl
    | some m =>
      obtain ⟨b1, b2⟩ := lenF_le hF
      rw [size_toList] at b2
      have hh1 : 1 ≤ headN t.data.toList := by unfold headN; omega
      by_cases hsh : t.data.toList.length < headN t.data.toList + m
      · obtain ⟨r1, r2, r3⟩ := first_trunc hF hsh
        have hz := unp_stop24 h0 hF hsh hH2.out
        clear h0 hF hsh
        (repeat' (first | refine awp_seq ?_ | refine awp_block ?_ | (refine awp_ret ?_; simp only [then_ret, block_ret, end_ret]) | ((first | refine call_val (by first | (simp only [sxd, z0, p0, Nat.reduceEqDiff, ↓reduceIte]; (try rfl); done) | (simp (disch := omega) only [sxd, z0, p0, sx, Value.oneCell', ↓reduceIte, Nat.reduceAdd, Nat.reduceMul, Nat.reduceEqDiff, Nat.reduceLT, Nat.reduceLeDiff, Int.reduceToNat, Int.reduceEq, Int.reduceLT, Int.reduceLE, Int.reduceNe, *]; (try rfl); done)) (first_con t htm) ?_ | refine vplain ?_ | refine vbuildS (by simp only [tyb, elemOf_s]) (by simp only [tyb, sxb, Value.oneCell', Nat.reduceAdd, Nat.reduceMul, Nat.reduceLeDiff, Nat.reduceLT]) ?_ | refine vcond ?_ | refine awp_exit ?_ | refine awp_skip ?_ | refine And.intro (by first | omega | assumption | exact setOk_ge (by decide +kernel)) ?_ | refine nqif_ways (fun h => ?_) ?_ | ((first | refine gif_ways (fun h => ?_) (fun h => ?_) | refine cif_ways (fun h => ?_) (fun h => ?_)) <;> (try simp only [sxn] at h) <;> (try (exfalso; omega)))) <;> (try (simp (disch := omega) only [sx, Value.oneCell', ↓reduceIte, Nat.reduceAdd, Nat.reduceMul, Nat.reduceEqDiff, Nat.reduceLT, Nat.reduceLeDiff, Int.reduceToNat, Int.reduceEq, Int.reduceLT, Int.reduceLE, Int.reduceNe, *])))))
        all_goals simp only [sxd, z0, p0, Nat.reduceEqDiff, ↓reduceIte, Tryd.f20, *]
        all_goals rfl
      · obtain ⟨r1, r2, r3⟩ := first_ok hF hsh
        have hnx := Lib.hid (unp_next h0 hF hsh hH2.out)
        rw [size_toList] at hsh
        clear h0 hF
        generalize hgh : headN t.data.toList = hd at *
        have hnx2 := Lib.hid (show unpF s.data.toList = comb (acc ++ [textF t.data.toList m]) (unpF (s.data.toList.drop (k + (hd + m)))) by rw [hnx.out, restF, hgh, htl'.out, List.drop_drop])
        clear hgh
        have q6 := texts_app1 acc (textF t.data.toList m)
        (repeat' (first | refine awp_seq ?_ | refine awp_block ?_ | (refine awp_ret ?_; simp only [then_ret, block_ret, end_ret]) | ((first | refine call_val (by first | (simp only [sxd, z0, p0, Nat.reduceEqDiff, ↓reduceIte]; (try rfl); done) | (simp (disch := omega) only [sxd, z0, p0, sx, Value.oneCell', ↓reduceIte, Nat.reduceAdd, Nat.reduceMul, Nat.reduceEqDiff, Nat.reduceLT, Nat.reduceLeDiff, Int.reduceToNat, Int.reduceEq, Int.reduceLT, Int.reduceLE, Int.reduceNe, *]; (try rfl); done)) (first_con t htm) ?_ | refine vplain ?_ | refine vbuildS (by simp only [tyb, elemOf_s]) (by simp only [tyb, sxb, Value.oneCell', Nat.reduceAdd, Nat.reduceMul, Nat.reduceLeDiff, Nat.reduceLT]) ?_ | refine vcond ?_ | refine awp_exit ?_ | refine awp_skip ?_ | refine And.intro (by first | omega | assumption | exact setOk_ge (by decide +kernel)) ?_ | refine nqif_ways (fun h => ?_) ?_ | ((first | refine gif_ways (fun h => ?_) (fun h => ?_) | refine cif_ways (fun h => ?_) (fun h => ?_)) <;> (try simp only [sxn] at h) <;> (try (exfalso; omega)))) <;> (try (simp (disch := omega) only [sx, Value.oneCell', ↓reduceIte, Nat.reduceAdd, Nat.reduceMul, Nat.reduceEqDiff, Nat.reduceLT, Nat.reduceLeDiff, Int.reduceToNat, Int.reduceEq, Int.reduceLT, Int.reduceLE, Int.reduceNe, *])))))
        exact kround_i (s.size - (k + (hd + m))) (by omega) ⟨k + (hd + m), _, acc ++ [textF t.data.toList m], rfl, by omega, by (first | rfl | (simp (disch := omega) only [sx, natS, ↓reduceIte, Nat.reduceAdd, Nat.reduceEqDiff, Nat.reduceLeDiff, *])), by (first | rfl | (simp (disch := omega) only [sx, natS, ↓reduceIte, Nat.reduceAdd, Nat.reduceEqDiff, Nat.reduceLeDiff, *])), by simp; omega, hnx2, by (simp (disch := omega) only [sx, Value.oneCell', ↓reduceIte, Nat.reduceAdd, Nat.reduceMul, Nat.reduceEqDiff, Nat.reduceLT, Nat.reduceLeDiff, Int.reduceToNat, Int.reduceEq, Int.reduceLT, Int.reduceLE, Int.reduceNe, natS, *]; rfl), by (first | rfl | (simp (disch := omega) only [sx, natS, ↓reduceIte, Nat.reduceAdd, Nat.reduceEqDiff, Nat.reduceLeDiff, *])), by omega⟩
  · have hz := unp_end (by rw [hH.out, List.drop_of_length_le (by rw [size_toList]; omega)])
    have q7 := texts_p0 acc
    have q8 := texts_z0 acc
    (repeat' (first | refine awp_seq ?_ | refine awp_block ?_ | (refine awp_ret ?_; simp only [then_ret, block_ret, end_ret]) | ((first | refine vplain ?_ | refine vbuildS (by simp only [tyb, elemOf_s]) (by simp only [tyb, sxb, Value.oneCell', Nat.reduceAdd, Nat.reduceMul, Nat.reduceLeDiff, Nat.reduceLT]) ?_ | refine vcond ?_ | refine awp_exit ?_ | refine awp_skip ?_ | refine And.intro (by first | omega | assumption | exact setOk_ge (by decide +kernel)) ?_ | refine nqif_ways (fun h => ?_) ?_ | ((first | refine gif_ways (fun h => ?_) (fun h => ?_) | refine cif_ways (fun h => ?_) (fun h => ?_)) <;> (try simp only [sxn] at h) <;> (try (exfalso; omega)))) <;> (try (simp (disch := omega) only [sx, Value.oneCell', ↓reduceIte, Nat.reduceAdd, Nat.reduceMul, Nat.reduceEqDiff, Nat.reduceLT, Nat.reduceLeDiff, Int.reduceToNat, Int.reduceEq, Int.reduceLT, Int.reduceLE, Int.reduceNe, *])))))
    all_goals simp only [sxd, z0, p0, Nat.reduceEqDiff, ↓reduceIte, Tryd.f20, *]

theorem Unpack_con (s : ByteArray) (hs : s.size ≤ 1000000) : Con Tryd.prog CtxP 19 [.ex (.string s)] (.val (.tup [.sl (texts (unpF s.data.toList).1), .ex (.int .i64 (unpF s.data.toList).2)])) := by
  refine con_val base Tryd.func19 rfl rfl (by kernel_rfl) (Nat.le_of_ble_eq_true rfl) ?_
  rw [init_eq]
  have hsm : s.size ≤ maxLen := Nat.le_trans hs (by decide)
  (repeat' (first | refine awp_seq ?_ | refine awp_block ?_ | (refine awp_ret ?_; simp only [then_ret, block_ret, end_ret]) | ((first | refine vplain ?_ | refine vbuildS (by simp only [tyb, elemOf_s]) (by simp only [tyb, sxb, Value.oneCell', Nat.reduceAdd, Nat.reduceMul, Nat.reduceLeDiff, Nat.reduceLT]) ?_ | refine vcond ?_ | refine awp_exit ?_ | refine awp_skip ?_ | refine And.intro (by first | omega | assumption | exact setOk_ge (by decide +kernel)) ?_ | refine nqif_ways (fun h => ?_) ?_ | ((first | refine gif_ways (fun h => ?_) (fun h => ?_) | refine cif_ways (fun h => ?_) (fun h => ?_)) <;> (try simp only [sxn] at h) <;> (try (exfalso; omega)))) <;> (try (simp (disch := omega) only [sx, Value.oneCell', ↓reduceIte, Nat.reduceAdd, Nat.reduceMul, Nat.reduceEqDiff, Nat.reduceLT, Nat.reduceLeDiff, Int.reduceToNat, Int.reduceEq, Int.reduceLT, Int.reduceLE, Int.reduceNe, *])))))
  refine vloop (fun n tm hp nx => ∃ (R : List UInt8) (b : Nat) (acc : List ByteArray), n = R.length ∧ tm 4 = .sl (bcells R) ∧ acc.length + R.length ≤ s.size ∧ Hid (unpF s.data.toList = comb acc (unpF R)) ∧ tm 5 = .own b ∧ hp b = some ⟨9, texts acc, true⟩ ∧ b < nx) s.size ⟨s.data.toList, _, [], by rw [size_toList], by (first | rfl | (simp (disch := omega) only [sx, natS, ↓reduceIte, Nat.reduceAdd, Nat.reduceEqDiff, Nat.reduceLeDiff, *])), by rw [size_toList]; simp, Lib.hid (by rw [unp_comb]), by (simp (disch := omega) only [sx, Value.oneCell', ↓reduceIte, Nat.reduceAdd, Nat.reduceMul, Nat.reduceEqDiff, Nat.reduceLT, Nat.reduceLeDiff, Int.reduceToNat, Int.reduceEq, Int.reduceLT, Int.reduceLE, Int.reduceNe, natS, *]; rfl), by (first | rfl | (simp (disch := omega) only [sx, natS, ↓reduceIte, Nat.reduceAdd, Nat.reduceEqDiff, Nat.reduceLeDiff, *])), by omega⟩ ?_
  rintro n tm hp nx ⟨R, b, acc, hn, g4, hac, hH, g5, g8, hb⟩
  have q3 := texts_len acc
  have q1 := bcells_len R
  have hRm : R.length ≤ maxLen := Nat.le_trans (show R.length ≤ 1000000 by omega) (by decide)
  by_cases hlt : 0 < R.length
  · have h0 : R ≠ [] := by intro e; rw [e] at hlt; simp at hlt
    cases hF : lenF R with
    | none =>
      obtain ⟨r1, r2, r3⟩ := len_no hF
      have hz := unp_stop2 h0 hF hH.out
      clear h0 hF
      (repeat' (first | refine awp_seq ?_ | refine awp_block ?_ | (refine awp_ret ?_; simp only [then_ret, block_ret, end_ret]) | ((first | refine call_val (by first | (simp only [sxd, z0, p0, Nat.reduceEqDiff, ↓reduceIte]; (try rfl); done) | (simp (disch := omega) only [sxd, z0, p0, sx, Value.oneCell', ↓reduceIte, Nat.reduceAdd, Nat.reduceMul, Nat.reduceEqDiff, Nat.reduceLT, Nat.reduceLeDiff, Int.reduceToNat, Int.reduceEq, Int.reduceLT, Int.reduceLE, Int.reduceNe, *]; (try rfl); done)) (length_con R hRm) ?_ | refine vplain ?_ | refine vbuildS (by simp only [tyb, elemOf_s]) (by simp only [tyb, sxb, Value.oneCell', Nat.reduceAdd, Nat.reduceMul, Nat.reduceLeDiff, Nat.reduceLT]) ?_ | refine vcond ?_ | refine awp_exit ?_ | refine awp_skip ?_ | refine And.intro (by first | omega | assumption | exact setOk_ge (by decide +kernel)) ?_ | refine nqif_ways (fun h => ?_) ?_ | ((first | refine gif_ways (fun h => ?_) (fun h => ?_) | refine cif_ways (fun h => ?_) (fun h => ?_)) <;> (try simp only [sxn] at h) <;> (try (exfalso; omega)))) <;> (try (simp (disch := omega) only [sx, Value.oneCell', ↓reduceIte, Nat.reduceAdd, Nat.reduceMul, Nat.reduceEqDiff, Nat.reduceLT, Nat.reduceLeDiff, Int.reduceToNat, Int.reduceEq, Int.reduceLT, Int.reduceLE, Int.reduceNe, *])))))
      all_goals simp only [sxd, z0, p0, Nat.reduceEqDiff, ↓reduceIte, Tryd.f19, *]
      all_goals rfl
    | some m =>
      obtain ⟨b1, b2⟩ := lenF_le hF
      have hh1 : 1 ≤ headN R := by unfold headN; omega
      obtain ⟨r1, r2, r3⟩ := len_ok hF
      by_cases hsh : R.length < headN R + m
      · have hz := unp_stop24 h0 hF hsh hH.out
        clear h0 hF
        (repeat' (first | refine awp_seq ?_ | refine awp_block ?_ | (refine awp_ret ?_; simp only [then_ret, block_ret, end_ret]) | ((first | refine call_val (by first | (simp only [sxd, z0, p0, Nat.reduceEqDiff, ↓reduceIte]; (try rfl); done) | (simp (disch := omega) only [sxd, z0, p0, sx, Value.oneCell', ↓reduceIte, Nat.reduceAdd, Nat.reduceMul, Nat.reduceEqDiff, Nat.reduceLT, Nat.reduceLeDiff, Int.reduceToNat, Int.reduceEq, Int.reduceLT, Int.reduceLE, Int.reduceNe, *]; (try rfl); done)) (length_con R hRm) ?_ | refine vplain ?_ | refine vbuildS (by simp only [tyb, elemOf_s]) (by simp only [tyb, sxb, Value.oneCell', Nat.reduceAdd, Nat.reduceMul, Nat.reduceLeDiff, Nat.reduceLT]) ?_ | refine vcond ?_ | refine awp_exit ?_ | refine awp_skip ?_ | refine And.intro (by first | omega | assumption | exact setOk_ge (by decide +kernel)) ?_ | refine nqif_ways (fun h => ?_) ?_ | ((first | refine gif_ways (fun h => ?_) (fun h => ?_) | refine cif_ways (fun h => ?_) (fun h => ?_)) <;> (try simp only [sxn] at h) <;> (try (exfalso; omega)))) <;> (try (simp (disch := omega) only [sx, Value.oneCell', ↓reduceIte, Nat.reduceAdd, Nat.reduceMul, Nat.reduceEqDiff, Nat.reduceLT, Nat.reduceLeDiff, Int.reduceToNat, Int.reduceEq, Int.reduceLT, Int.reduceLE, Int.reduceNe, *])))))
        all_goals simp only [sxd, z0, p0, Nat.reduceEqDiff, ↓reduceIte, Tryd.f19, *]
        all_goals rfl
      · have hnx := Lib.hid (unp_next h0 hF hsh hH.out)
        have hx : (⟨((R.take (headN R + m)).drop (headN R)).toArray⟩ : ByteArray) = textF R m := rfl
        have hrl : (restF R m).length = R.length - (headN R + m) := by unfold restF; rw [List.length_drop]
        have hrest : (R.take R.length).drop (headN R + m) = restF R m := by rw [List.take_length]; rfl
        have q6 := texts_app1 acc (textF R m)
        have q9 := bcells_all R
        have bc := bcells_cut R
        clear h0 hF
        generalize headN R = hd at *
        have tn : ((hd : Int) + (m : Int)).toNat = hd + m := by omega
        (repeat' (first | refine awp_seq ?_ | refine awp_block ?_ | (refine awp_ret ?_; simp only [then_ret, block_ret, end_ret]) | ((first | refine call_val (by first | (simp only [sxd, z0, p0, Nat.reduceEqDiff, ↓reduceIte]; (try rfl); done) | (simp (disch := omega) only [sxd, z0, p0, sx, Value.oneCell', ↓reduceIte, Nat.reduceAdd, Nat.reduceMul, Nat.reduceEqDiff, Nat.reduceLT, Nat.reduceLeDiff, Int.reduceToNat, Int.reduceEq, Int.reduceLT, Int.reduceLE, Int.reduceNe, *]; (try rfl); done)) (length_con R hRm) ?_ | refine vplain ?_ | refine vbuildS (by simp only [tyb, elemOf_s]) (by simp only [tyb, sxb, Value.oneCell', Nat.reduceAdd, Nat.reduceMul, Nat.reduceLeDiff, Nat.reduceLT]) ?_ | refine vcond ?_ | refine awp_exit ?_ | refine awp_skip ?_ | refine And.intro (by first | omega | assumption | exact setOk_ge (by decide +kernel)) ?_ | refine nqif_ways (fun h => ?_) ?_ | ((first | refine gif_ways (fun h => ?_) (fun h => ?_) | refine cif_ways (fun h => ?_) (fun h => ?_)) <;> (try simp only [sxn] at h) <;> (try (exfalso; omega)))) <;> (try (simp (disch := omega) only [sx, Value.oneCell', ↓reduceIte, Nat.reduceAdd, Nat.reduceMul, Nat.reduceEqDiff, Nat.reduceLT, Nat.reduceLeDiff, Int.reduceToNat, Int.reduceEq, Int.reduceLT, Int.reduceLE, Int.reduceNe, *])))))
        exact kround_i (restF R m).length (by omega) ⟨restF R m, _, acc ++ [textF R m], rfl, by (first | rfl | (simp (disch := omega) only [sx, natS, ↓reduceIte, Nat.reduceAdd, Nat.reduceEqDiff, Nat.reduceLeDiff, *])), by simp; omega, hnx, by (simp (disch := omega) only [sx, Value.oneCell', ↓reduceIte, Nat.reduceAdd, Nat.reduceMul, Nat.reduceEqDiff, Nat.reduceLT, Nat.reduceLeDiff, Int.reduceToNat, Int.reduceEq, Int.reduceLT, Int.reduceLE, Int.reduceNe, natS, *]; rfl), by (first | rfl | (simp (disch := omega) only [sx, natS, ↓reduceIte, Nat.reduceAdd, Nat.reduceEqDiff, Nat.reduceLeDiff, *])), by omega⟩
  · have hR : R = [] := List.eq_nil_of_length_eq_zero (by omega)
    have hz := unp_end (by rw [hH.out, hR])
    have q7 := texts_p0 acc
    have q8 := texts_z0 acc
    clear hR
    (repeat' (first | refine awp_seq ?_ | refine awp_block ?_ | (refine awp_ret ?_; simp only [then_ret, block_ret, end_ret]) | ((first | refine vplain ?_ | refine vbuildS (by simp only [tyb, elemOf_s]) (by simp only [tyb, sxb, Value.oneCell', Nat.reduceAdd, Nat.reduceMul, Nat.reduceLeDiff, Nat.reduceLT]) ?_ | refine vcond ?_ | refine awp_exit ?_ | refine awp_skip ?_ | refine And.intro (by first | omega | assumption | exact setOk_ge (by decide +kernel)) ?_ | refine nqif_ways (fun h => ?_) ?_ | ((first | refine gif_ways (fun h => ?_) (fun h => ?_) | refine cif_ways (fun h => ?_) (fun h => ?_)) <;> (try simp only [sxn] at h) <;> (try (exfalso; omega)))) <;> (try (simp (disch := omega) only [sx, Value.oneCell', ↓reduceIte, Nat.reduceAdd, Nat.reduceMul, Nat.reduceEqDiff, Nat.reduceLT, Nat.reduceLeDiff, Int.reduceToNat, Int.reduceEq, Int.reduceLT, Int.reduceLE, Int.reduceNe, *])))))
    all_goals simp only [sxd, z0, p0, Nat.reduceEqDiff, ↓reduceIte, Tryd.f19, *]
end Go.Proofs.YtfpknhhhjgdjbaaDoor
