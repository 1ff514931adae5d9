/-
  Chapter 03, walked: the digits of an amount's text. Conditions: those that each theorem states.
-/
import Derived.Test.YtaphbajfjmhpnaaDoorC03F
namespace Go.Proofs.YtaphbajfjmhpnaaDoor
open Go.RowKit
set_option maxRecDepth 100000
set_option linter.unusedSimpArgs false

def splitT (o : Option (List UInt8)) : ByteArray := match o with
  | none => ⟨#[]⟩
  | some D => ⟨D.toArray⟩
theorem split_some {o : Option (List UInt8)} {D : List UInt8} (h : o = some D) : splitT o = ⟨D.toArray⟩ ∧ o.isSome = true := by rw [h]; exact ⟨rfl, rfl⟩
theorem split_nope {o : Option (List UInt8)} (h : o = none) : splitT o = ⟨#[]⟩ ∧ o.isSome = false := by rw [h]; exact ⟨rfl, rfl⟩
theorem trim_dig (s : ByteArray) : (trimS s 45).data.toList = digL s.data.toList := by
  unfold trimS digL
  have : hasB s.data.toList 45 = negL s.data.toList := rfl
  rw [this]
  split
  · exact tail_list s
  · rfl
theorem nat_no0 {l : List UInt8} {x : UInt8} (e : l[0]? = some x) (h : x.toNat = 48) (h1 : 1 < l.length) : natL l = false := by
  rw [← Bool.not_eq_true, natL_iff]
  rintro ⟨_, _, h3⟩
  exact h3 ⟨by rw [e, u8_eq.2 (show x.toNat = (48 : UInt8).toNat from h)], h1⟩
theorem nat_noD {l : List UInt8} (h : allD l = false) : natL l = false := by
  rw [← Bool.not_eq_true, natL_iff]
  rintro ⟨h1, _, _⟩
  unfold allD at h
  rw [h] at h1; cases h1
theorem nat_yes {l : List UInt8} {x : UInt8} (e : l[0]? = some x) (h : ¬ (x.toNat = 48 ∧ 1 < l.length)) (h2 : allD l = true) : natL l = true := by
  rw [natL_iff]
  refine ⟨h2, (by rintro rfl; cases e), ?_⟩
  rintro ⟨h3, h4⟩
  rw [e, Option.some.injEq] at h3
  exact h ⟨by rw [h3]; rfl, h4⟩
theorem splitF_0 (T : List UInt8) : splitF T 0 = if natL T = true then some T else none := by unfold splitF; rw [if_pos rfl]
theorem splitF_pos {T : List UInt8} {d W : Nat} (hd : 0 < d) (hl : T.length = W + d + 1) (hW : 1 ≤ W) : splitF T d = if T[W]? = some 46 ∧ natL (T.take W) = true ∧ (T.drop (W + 1)).all isD = true then some (T.take W ++ T.drop (W + 1)) else none := by
  unfold splitF
  rw [if_neg (by omega), if_neg (by omega), show T.length - d - 1 = W by omega, show T.length - d = W + 1 by omega]
theorem allD_nil : allD [] = true := rfl
theorem split_0 (s : ByteArray) (hs : s.size ≤ 140737488355328) : Con Tryd.prog Ctx 31 [.ex (.string s), .ex (.int .i64 0)] (.val (.tup [.ex (.string (splitT (splitF (digL s.data.toList) 0))), .ex (.bool (splitF (digL s.data.toList) 0).isSome)])) := by
  refine con_val base Tryd.func31 rfl rfl (by kernel_rfl) (Nat.le_of_ble_eq_true rfl) ?_
  rw [init_eq]
  have hTr := TrimPrefix_con s 45 (by omega)
  have htd := trim_dig s
  have htz : (trimS s 45).size ≤ s.size := by
    unfold trimS
    split
    · rw [ByteArray.size_extract]; omega
    · omega
  generalize trimS s 45 = t at hTr htd htz
  rw [← htd]
  have hH := Lib.hid htd
  clear htd
  have he : t.extract t.size t.size = ⟨#[]⟩ := bytes_ext (by rw [ext_list, List.drop_of_length_le (by rw [List.length_take, size_toList]; omega)])
  have hw : t.extract 0 t.size = t := Eq.symm <| ByteArray.ext (Array.ext' (by
    have := ext_list t 0 t.size
    rw [List.drop_zero, List.take_of_length_le (by rw [size_toList]; exact Nat.le_refl _)] at this
    exact this.symm))
  have hE := TrimPrefix_con ⟨#[]⟩ 46 (by decide)
  have hE2 : trimS ⟨#[]⟩ 46 = ⟨#[]⟩ := rfl
  rw [hE2] at hE
  have hP := plain_con t (by omega)
  have hQ := plain_con ⟨#[]⟩ (by decide)
  have ht0 : t ++ ⟨#[]⟩ = t := by
    refine ByteArray.ext (Array.ext' ?_)
    simp [ByteArray.data_append]
  have hz0 : (⟨#[]⟩ : ByteArray).size = 0 := rfl
  have hall : allD (⟨#[]⟩ : ByteArray).data.toList = true := rfl
  rw [hall] at hQ
  by_cases t0 : t.size = 0
  · have ht : t = ⟨#[]⟩ := by
      have : t.data.toList = [] := List.eq_nil_of_length_eq_zero (by rw [size_toList]; exact t0)
      exact bytes_ext this
    have hn : natL t.data.toList = false := by rw [ht]; rfl
    obtain ⟨r1, r2⟩ := split_nope (by rw [splitF_0, if_neg (by rw [hn]; simp)] : splitF t.data.toList 0 = none)
    rw [ht] at hTr r1 r2
    rw [ht]
    have hx0 : (⟨#[]⟩ : ByteArray).extract 0 0 = ⟨#[]⟩ := rfl
    clear ht t0 he hw hP ht0 hn htz hH
    (repeat' (first
    | refine awp_seq ?_
    | refine awp_block ?_
    | (refine awp_ret ?_; simp only [then_ret, block_ret, end_ret])
    | ((first
        | refine call_val (by first | (simp only [sxc, sx6, z0, p0, Nat.reduceEqDiff, ↓reduceIte, AV.ex.injEq, Value.bool.injEq, Value.int.injEq, Value.string.injEq, List.all_append, List.map_append]; (try rfl); done) | (simp only [sxc, sx6, z0, p0, Nat.reduceEqDiff, ↓reduceIte, AV.ex.injEq, Value.bool.injEq, Value.int.injEq, Value.string.injEq, List.all_append, List.map_append, *]; (try rfl); done)) (hTr) ?_
        | refine call_val (by first | (simp only [sxc, sx6, z0, p0, Nat.reduceEqDiff, ↓reduceIte, AV.ex.injEq, Value.bool.injEq, Value.int.injEq, Value.string.injEq, List.all_append, List.map_append]; (try rfl); done) | (simp only [sxc, sx6, z0, p0, Nat.reduceEqDiff, ↓reduceIte, AV.ex.injEq, Value.bool.injEq, Value.int.injEq, Value.string.injEq, List.all_append, List.map_append, *]; (try rfl); done)) (hE) ?_
        | refine call_val (by first | (simp only [sxc, sx6, z0, p0, Nat.reduceEqDiff, ↓reduceIte, AV.ex.injEq, Value.bool.injEq, Value.int.injEq, Value.string.injEq, List.all_append, List.map_append]; (try rfl); done) | (simp only [sxc, sx6, z0, p0, Nat.reduceEqDiff, ↓reduceIte, AV.ex.injEq, Value.bool.injEq, Value.int.injEq, Value.string.injEq, List.all_append, List.map_append, *]; (try rfl); done)) (hQ) ?_
        | refine vplain ?_
        | refine vdraws (by kernel_rfl) ?_
        | refine vbuildS (by simp only [tyb, elemOf_s]) (by simp only [tyb, elemOf_s, List.length_cons, List.length_nil, List.all_cons, List.all_nil, Value.oneCell', Bool.and_self, Nat.reduceAdd, Nat.reduceMul, Nat.reduceLeDiff, Nat.reduceLT, true_and, and_true, and_self, Nat.lt_add_one, Nat.zero_mul, Nat.zero_le, Nat.one_mul]) ?_
        | refine vcond ?_
        | refine awp_exit ?_
        | refine awp_skip ?_
        | refine And.intro (by first | omega | assumption | exact setOk_ge (by decide +kernel) | exact setOk_late (by decide +kernel) (by (simp (disch := omega) only [sx0, sx1, sx2, sx3, sx4, sx5, sx6, isBytes, ATy.isAgg, ATy.known, tyb, Nat.reduceAdd, Nat.reduceMul, Nat.reduceEqDiff, Nat.reduceLT, Nat.reduceLeDiff, ↓reduceIte, implies_true, decide_true, decide_false, ne_eq, Value.oneCell', Int.reduceToNat, ite_self, beq_self_eq_true, bne_self_eq_false, gt_iff_lt, Int.reduceEq, Int.reduceLT, Int.reduceLE, Int.reduceNe, List.forall_mem_cons, false_implies, forall_const, natS, *]; rfl)) (by refine wkR_row ?_; repeat' (first | exact trivial | refine wkL_c (by decide +kernel) ?_)) | exact Nat.le_of_ble_eq_true (by kernel_rfl)) ?_
        | refine nqif_ways (fun h => ?_) ?_
        | ((first | refine gif_ways (fun h => ?_) (fun h => ?_) | refine cif_ways (fun h => ?_) (fun h => ?_)) <;> (try simp only [decide_eq_true_eq, decide_eq_false_iff_not, Bool.not_eq_true', Bool.not_eq_false', Bool.not_true, Bool.not_false] at h) <;> (try (exfalso; omega)))) <;> (try (simp (disch := omega) only [sx0, sx1, sx2, sx3, sx4, sx5, sx6, isBytes, ATy.isAgg, ATy.known, tyb, Nat.reduceAdd, Nat.reduceMul, Nat.reduceEqDiff, Nat.reduceLT, Nat.reduceLeDiff, ↓reduceIte, implies_true, decide_true, decide_false, ne_eq, Value.oneCell', Int.reduceToNat, ite_self, beq_self_eq_true, bne_self_eq_false, gt_iff_lt, Int.reduceEq, Int.reduceLT, Int.reduceLE, Int.reduceNe, List.forall_mem_cons, false_implies, forall_const, *])))))
    all_goals simp only [sxc, sx6, z0, p0, Nat.reduceEqDiff, ↓reduceIte, AV.ex.injEq, Value.bool.injEq, Value.int.injEq, Value.string.injEq, List.all_append, List.map_append, Tryd.f31, *]
  · have te := str_ne t0
    have f0 := byte_at t 0 (by omega)
    generalize hx : t[0]'(by omega) = x at f0
    by_cases h48 : x.toNat = 48 ∧ 1 < t.size
    · have hn := nat_no0 f0 h48.1 (by rw [size_toList]; exact h48.2)
      obtain ⟨r1, r2⟩ := split_nope (by rw [splitF_0, if_neg (by rw [hn]; simp)] : splitF t.data.toList 0 = none)
      obtain ⟨h1, h2⟩ := h48
      have h1' : (x.toNat : Int) = 48 := by omega
      clear f0 h1
      (repeat' (first
    | refine awp_seq ?_
    | refine awp_block ?_
    | (refine awp_ret ?_; simp only [then_ret, block_ret, end_ret])
    | ((first
        | refine call_val (by first | (simp only [sxc, sx6, z0, p0, Nat.reduceEqDiff, ↓reduceIte, AV.ex.injEq, Value.bool.injEq, Value.int.injEq, Value.string.injEq, List.all_append, List.map_append]; (try rfl); done) | (simp only [sxc, sx6, z0, p0, Nat.reduceEqDiff, ↓reduceIte, AV.ex.injEq, Value.bool.injEq, Value.int.injEq, Value.string.injEq, List.all_append, List.map_append, *]; (try rfl); done)) (hTr) ?_
        | refine call_val (by first | (simp only [sxc, sx6, z0, p0, Nat.reduceEqDiff, ↓reduceIte, AV.ex.injEq, Value.bool.injEq, Value.int.injEq, Value.string.injEq, List.all_append, List.map_append]; (try rfl); done) | (simp only [sxc, sx6, z0, p0, Nat.reduceEqDiff, ↓reduceIte, AV.ex.injEq, Value.bool.injEq, Value.int.injEq, Value.string.injEq, List.all_append, List.map_append, *]; (try rfl); done)) (hE) ?_
        | refine call_val (by first | (simp only [sxc, sx6, z0, p0, Nat.reduceEqDiff, ↓reduceIte, AV.ex.injEq, Value.bool.injEq, Value.int.injEq, Value.string.injEq, List.all_append, List.map_append]; (try rfl); done) | (simp only [sxc, sx6, z0, p0, Nat.reduceEqDiff, ↓reduceIte, AV.ex.injEq, Value.bool.injEq, Value.int.injEq, Value.string.injEq, List.all_append, List.map_append, *]; (try rfl); done)) (hP) ?_
        | refine call_val (by first | (simp only [sxc, sx6, z0, p0, Nat.reduceEqDiff, ↓reduceIte, AV.ex.injEq, Value.bool.injEq, Value.int.injEq, Value.string.injEq, List.all_append, List.map_append]; (try rfl); done) | (simp only [sxc, sx6, z0, p0, Nat.reduceEqDiff, ↓reduceIte, AV.ex.injEq, Value.bool.injEq, Value.int.injEq, Value.string.injEq, List.all_append, List.map_append, *]; (try rfl); done)) (hQ) ?_
        | refine vplain ?_
        | refine vdraws (by kernel_rfl) ?_
        | refine vbuildS (by simp only [tyb, elemOf_s]) (by simp only [tyb, elemOf_s, List.length_cons, List.length_nil, List.all_cons, List.all_nil, Value.oneCell', Bool.and_self, Nat.reduceAdd, Nat.reduceMul, Nat.reduceLeDiff, Nat.reduceLT, true_and, and_true, and_self, Nat.lt_add_one, Nat.zero_mul, Nat.zero_le, Nat.one_mul]) ?_
        | refine vcond ?_
        | refine awp_exit ?_
        | refine awp_skip ?_
        | refine And.intro (by first | omega | assumption | exact setOk_ge (by decide +kernel) | exact setOk_late (by decide +kernel) (by (simp (disch := omega) only [sx0, sx1, sx2, sx3, sx4, sx5, sx6, isBytes, ATy.isAgg, ATy.known, tyb, Nat.reduceAdd, Nat.reduceMul, Nat.reduceEqDiff, Nat.reduceLT, Nat.reduceLeDiff, ↓reduceIte, implies_true, decide_true, decide_false, ne_eq, Value.oneCell', Int.reduceToNat, ite_self, beq_self_eq_true, bne_self_eq_false, gt_iff_lt, Int.reduceEq, Int.reduceLT, Int.reduceLE, Int.reduceNe, List.forall_mem_cons, false_implies, forall_const, natS, *]; rfl)) (by refine wkR_row ?_; repeat' (first | exact trivial | refine wkL_c (by decide +kernel) ?_)) | exact Nat.le_of_ble_eq_true (by kernel_rfl)) ?_
        | refine nqif_ways (fun h => ?_) ?_
        | ((first | refine gif_ways (fun h => ?_) (fun h => ?_) | refine cif_ways (fun h => ?_) (fun h => ?_)) <;> (try simp only [decide_eq_true_eq, decide_eq_false_iff_not, Bool.not_eq_true', Bool.not_eq_false', Bool.not_true, Bool.not_false] at h) <;> (try (exfalso; omega)))) <;> (try (simp (disch := omega) only [sx0, sx1, sx2, sx3, sx4, sx5, sx6, isBytes, ATy.isAgg, ATy.known, tyb, Nat.reduceAdd, Nat.reduceMul, Nat.reduceEqDiff, Nat.reduceLT, Nat.reduceLeDiff, ↓reduceIte, implies_true, decide_true, decide_false, ne_eq, Value.oneCell', Int.reduceToNat, ite_self, beq_self_eq_true, bne_self_eq_false, gt_iff_lt, Int.reduceEq, Int.reduceLT, Int.reduceLE, Int.reduceNe, List.forall_mem_cons, false_implies, forall_const, *])))))
      all_goals simp only [sxc, sx6, z0, p0, Nat.reduceEqDiff, ↓reduceIte, AV.ex.injEq, Value.bool.injEq, Value.int.injEq, Value.string.injEq, List.all_append, List.map_append, Tryd.f31, *]
    · have h48' : ¬ (x.toNat : Int) = 48 ∨ t.size ≤ 1 := by omega
      cases hD : allD t.data.toList with
      | false =>
        have hn := nat_noD hD
        obtain ⟨r1, r2⟩ := split_nope (by rw [splitF_0, if_neg (by rw [hn]; simp)] : splitF t.data.toList 0 = none)
        rw [hD] at hP
        clear f0 h48
        (repeat' (first
    | refine awp_seq ?_
    | refine awp_block ?_
    | (refine awp_ret ?_; simp only [then_ret, block_ret, end_ret])
    | ((first
        | refine call_val (by first | (simp only [sxc, sx6, z0, p0, Nat.reduceEqDiff, ↓reduceIte, AV.ex.injEq, Value.bool.injEq, Value.int.injEq, Value.string.injEq, List.all_append, List.map_append]; (try rfl); done) | (simp only [sxc, sx6, z0, p0, Nat.reduceEqDiff, ↓reduceIte, AV.ex.injEq, Value.bool.injEq, Value.int.injEq, Value.string.injEq, List.all_append, List.map_append, *]; (try rfl); done)) (hTr) ?_
        | refine call_val (by first | (simp only [sxc, sx6, z0, p0, Nat.reduceEqDiff, ↓reduceIte, AV.ex.injEq, Value.bool.injEq, Value.int.injEq, Value.string.injEq, List.all_append, List.map_append]; (try rfl); done) | (simp only [sxc, sx6, z0, p0, Nat.reduceEqDiff, ↓reduceIte, AV.ex.injEq, Value.bool.injEq, Value.int.injEq, Value.string.injEq, List.all_append, List.map_append, *]; (try rfl); done)) (hE) ?_
        | refine call_val (by first | (simp only [sxc, sx6, z0, p0, Nat.reduceEqDiff, ↓reduceIte, AV.ex.injEq, Value.bool.injEq, Value.int.injEq, Value.string.injEq, List.all_append, List.map_append]; (try rfl); done) | (simp only [sxc, sx6, z0, p0, Nat.reduceEqDiff, ↓reduceIte, AV.ex.injEq, Value.bool.injEq, Value.int.injEq, Value.string.injEq, List.all_append, List.map_append, *]; (try rfl); done)) (hP) ?_
        | refine call_val (by first | (simp only [sxc, sx6, z0, p0, Nat.reduceEqDiff, ↓reduceIte, AV.ex.injEq, Value.bool.injEq, Value.int.injEq, Value.string.injEq, List.all_append, List.map_append]; (try rfl); done) | (simp only [sxc, sx6, z0, p0, Nat.reduceEqDiff, ↓reduceIte, AV.ex.injEq, Value.bool.injEq, Value.int.injEq, Value.string.injEq, List.all_append, List.map_append, *]; (try rfl); done)) (hQ) ?_
        | refine vplain ?_
        | refine vdraws (by kernel_rfl) ?_
        | refine vbuildS (by simp only [tyb, elemOf_s]) (by simp only [tyb, elemOf_s, List.length_cons, List.length_nil, List.all_cons, List.all_nil, Value.oneCell', Bool.and_self, Nat.reduceAdd, Nat.reduceMul, Nat.reduceLeDiff, Nat.reduceLT, true_and, and_true, and_self, Nat.lt_add_one, Nat.zero_mul, Nat.zero_le, Nat.one_mul]) ?_
        | refine vcond ?_
        | refine awp_exit ?_
        | refine awp_skip ?_
        | refine And.intro (by first | omega | assumption | exact setOk_ge (by decide +kernel) | exact setOk_late (by decide +kernel) (by (simp (disch := omega) only [sx0, sx1, sx2, sx3, sx4, sx5, sx6, isBytes, ATy.isAgg, ATy.known, tyb, Nat.reduceAdd, Nat.reduceMul, Nat.reduceEqDiff, Nat.reduceLT, Nat.reduceLeDiff, ↓reduceIte, implies_true, decide_true, decide_false, ne_eq, Value.oneCell', Int.reduceToNat, ite_self, beq_self_eq_true, bne_self_eq_false, gt_iff_lt, Int.reduceEq, Int.reduceLT, Int.reduceLE, Int.reduceNe, List.forall_mem_cons, false_implies, forall_const, natS, *]; rfl)) (by refine wkR_row ?_; repeat' (first | exact trivial | refine wkL_c (by decide +kernel) ?_)) | exact Nat.le_of_ble_eq_true (by kernel_rfl)) ?_
        | refine nqif_ways (fun h => ?_) ?_
        | ((first | refine gif_ways (fun h => ?_) (fun h => ?_) | refine cif_ways (fun h => ?_) (fun h => ?_)) <;> (try simp only [decide_eq_true_eq, decide_eq_false_iff_not, Bool.not_eq_true', Bool.not_eq_false', Bool.not_true, Bool.not_false] at h) <;> (try (exfalso; omega)))) <;> (try (simp (disch := omega) only [sx0, sx1, sx2, sx3, sx4, sx5, sx6, isBytes, ATy.isAgg, ATy.known, tyb, Nat.reduceAdd, Nat.reduceMul, Nat.reduceEqDiff, Nat.reduceLT, Nat.reduceLeDiff, ↓reduceIte, implies_true, decide_true, decide_false, ne_eq, Value.oneCell', Int.reduceToNat, ite_self, beq_self_eq_true, bne_self_eq_false, gt_iff_lt, Int.reduceEq, Int.reduceLT, Int.reduceLE, Int.reduceNe, List.forall_mem_cons, false_implies, forall_const, *])))))
        all_goals simp only [sxc, sx6, z0, p0, Nat.reduceEqDiff, ↓reduceIte, AV.ex.injEq, Value.bool.injEq, Value.int.injEq, Value.string.injEq, List.all_append, List.map_append, Tryd.f31, *]
      | true =>
        have hn := nat_yes f0 (by rw [size_toList]; exact h48) hD
        obtain ⟨r1, r2⟩ := split_some (by rw [splitF_0, if_pos hn] : splitF t.data.toList 0 = some t.data.toList)
        have hts : (⟨t.data.toList.toArray⟩ : ByteArray) = t := by rw [Array.toArray_toList]
        rw [hts] at r1
        rw [hD] at hP
        clear f0 h48
        (repeat' (first
    | refine awp_seq ?_
    | refine awp_block ?_
    | (refine awp_ret ?_; simp only [then_ret, block_ret, end_ret])
    | ((first
        | refine call_val (by first | (simp only [sxc, sx6, z0, p0, Nat.reduceEqDiff, ↓reduceIte, AV.ex.injEq, Value.bool.injEq, Value.int.injEq, Value.string.injEq, List.all_append, List.map_append]; (try rfl); done) | (simp only [sxc, sx6, z0, p0, Nat.reduceEqDiff, ↓reduceIte, AV.ex.injEq, Value.bool.injEq, Value.int.injEq, Value.string.injEq, List.all_append, List.map_append, *]; (try rfl); done)) (hTr) ?_
        | refine call_val (by first | (simp only [sxc, sx6, z0, p0, Nat.reduceEqDiff, ↓reduceIte, AV.ex.injEq, Value.bool.injEq, Value.int.injEq, Value.string.injEq, List.all_append, List.map_append]; (try rfl); done) | (simp only [sxc, sx6, z0, p0, Nat.reduceEqDiff, ↓reduceIte, AV.ex.injEq, Value.bool.injEq, Value.int.injEq, Value.string.injEq, List.all_append, List.map_append, *]; (try rfl); done)) (hE) ?_
        | refine call_val (by first | (simp only [sxc, sx6, z0, p0, Nat.reduceEqDiff, ↓reduceIte, AV.ex.injEq, Value.bool.injEq, Value.int.injEq, Value.string.injEq, List.all_append, List.map_append]; (try rfl); done) | (simp only [sxc, sx6, z0, p0, Nat.reduceEqDiff, ↓reduceIte, AV.ex.injEq, Value.bool.injEq, Value.int.injEq, Value.string.injEq, List.all_append, List.map_append, *]; (try rfl); done)) (hP) ?_
        | refine call_val (by first | (simp only [sxc, sx6, z0, p0, Nat.reduceEqDiff, ↓reduceIte, AV.ex.injEq, Value.bool.injEq, Value.int.injEq, Value.string.injEq, List.all_append, List.map_append]; (try rfl); done) | (simp only [sxc, sx6, z0, p0, Nat.reduceEqDiff, ↓reduceIte, AV.ex.injEq, Value.bool.injEq, Value.int.injEq, Value.string.injEq, List.all_append, List.map_append, *]; (try rfl); done)) (hQ) ?_
        | refine vplain ?_
        | refine vdraws (by kernel_rfl) ?_
        | refine vbuildS (by simp only [tyb, elemOf_s]) (by simp only [tyb, elemOf_s, List.length_cons, List.length_nil, List.all_cons, List.all_nil, Value.oneCell', Bool.and_self, Nat.reduceAdd, Nat.reduceMul, Nat.reduceLeDiff, Nat.reduceLT, true_and, and_true, and_self, Nat.lt_add_one, Nat.zero_mul, Nat.zero_le, Nat.one_mul]) ?_
        | refine vcond ?_
        | refine awp_exit ?_
        | refine awp_skip ?_
        | refine And.intro (by first | omega | assumption | exact setOk_ge (by decide +kernel) | exact setOk_late (by decide +kernel) (by (simp (disch := omega) only [sx0, sx1, sx2, sx3, sx4, sx5, sx6, isBytes, ATy.isAgg, ATy.known, tyb, Nat.reduceAdd, Nat.reduceMul, Nat.reduceEqDiff, Nat.reduceLT, Nat.reduceLeDiff, ↓reduceIte, implies_true, decide_true, decide_false, ne_eq, Value.oneCell', Int.reduceToNat, ite_self, beq_self_eq_true, bne_self_eq_false, gt_iff_lt, Int.reduceEq, Int.reduceLT, Int.reduceLE, Int.reduceNe, List.forall_mem_cons, false_implies, forall_const, natS, *]; rfl)) (by refine wkR_row ?_; repeat' (first | exact trivial | refine wkL_c (by decide +kernel) ?_)) | exact Nat.le_of_ble_eq_true (by kernel_rfl)) ?_
        | refine nqif_ways (fun h => ?_) ?_
        | ((first | refine gif_ways (fun h => ?_) (fun h => ?_) | refine cif_ways (fun h => ?_) (fun h => ?_)) <;> (try simp only [decide_eq_true_eq, decide_eq_false_iff_not, Bool.not_eq_true', Bool.not_eq_false', Bool.not_true, Bool.not_false] at h) <;> (try (exfalso; omega)))) <;> (try (simp (disch := omega) only [sx0, sx1, sx2, sx3, sx4, sx5, sx6, isBytes, ATy.isAgg, ATy.known, tyb, Nat.reduceAdd, Nat.reduceMul, Nat.reduceEqDiff, Nat.reduceLT, Nat.reduceLeDiff, ↓reduceIte, implies_true, decide_true, decide_false, ne_eq, Value.oneCell', Int.reduceToNat, ite_self, beq_self_eq_true, bne_self_eq_false, gt_iff_lt, Int.reduceEq, Int.reduceLT, Int.reduceLE, Int.reduceNe, List.forall_mem_cons, false_implies, forall_const, *])))))
        all_goals simp only [sxc, sx6, z0, p0, Nat.reduceEqDiff, ↓reduceIte, AV.ex.injEq, Value.bool.injEq, Value.int.injEq, Value.string.injEq, List.all_append, List.map_append, Tryd.f31, *]

theorem split_sh {s t : ByteArray} {d : Nat} (hTr : Con Tryd.prog Ctx 36 [.ex (.string s), .ex (.string ⟨#[45]⟩)] (.val (.ex (.string t)))) (htz : t.size ≤ 140737488355328) (hsh : t.size < d + 2) (hd4 : d ≤ 4) (hd : 0 < d) :
    Con Tryd.prog Ctx 31 [.ex (.string s), .ex (.int .i64 d)] (.val (.tup [.ex (.string ⟨#[]⟩), .ex (.bool false)])) := by
  refine con_val base Tryd.func31 rfl rfl (by kernel_rfl) (Nat.le_of_ble_eq_true rfl) ?_
  rw [init_eq]
  (repeat' (first
    | refine awp_seq ?_
    | refine awp_block ?_
    | (refine awp_ret ?_; simp only [then_ret, block_ret, end_ret])
    | ((first
        | refine call_val (by first | (simp only [sxc, sx6, z0, p0, Nat.reduceEqDiff, ↓reduceIte, AV.ex.injEq, Value.bool.injEq, Value.int.injEq, Value.string.injEq, List.all_append, List.map_append]; (try rfl); done) | (simp only [sxc, sx6, z0, p0, Nat.reduceEqDiff, ↓reduceIte, AV.ex.injEq, Value.bool.injEq, Value.int.injEq, Value.string.injEq, List.all_append, List.map_append, *]; (try rfl); done)) (hTr) ?_
        | refine vplain ?_
        | refine vdraws (by kernel_rfl) ?_
        | refine vbuildS (by simp only [tyb, elemOf_s]) (by simp only [tyb, elemOf_s, List.length_cons, List.length_nil, List.all_cons, List.all_nil, Value.oneCell', Bool.and_self, Nat.reduceAdd, Nat.reduceMul, Nat.reduceLeDiff, Nat.reduceLT, true_and, and_true, and_self, Nat.lt_add_one, Nat.zero_mul, Nat.zero_le, Nat.one_mul]) ?_
        | refine vcond ?_
        | refine awp_exit ?_
        | refine awp_skip ?_
        | refine And.intro (by first | omega | assumption | exact setOk_ge (by decide +kernel) | exact setOk_late (by decide +kernel) (by (simp (disch := omega) only [sx0, sx1, sx2, sx3, sx4, sx5, sx6, isBytes, ATy.isAgg, ATy.known, tyb, Nat.reduceAdd, Nat.reduceMul, Nat.reduceEqDiff, Nat.reduceLT, Nat.reduceLeDiff, ↓reduceIte, implies_true, decide_true, decide_false, ne_eq, Value.oneCell', Int.reduceToNat, ite_self, beq_self_eq_true, bne_self_eq_false, gt_iff_lt, Int.reduceEq, Int.reduceLT, Int.reduceLE, Int.reduceNe, List.forall_mem_cons, false_implies, forall_const, natS, *]; rfl)) (by refine wkR_row ?_; repeat' (first | exact trivial | refine wkL_c (by decide +kernel) ?_)) | exact Nat.le_of_ble_eq_true (by kernel_rfl)) ?_
        | refine nqif_ways (fun h => ?_) ?_
        | ((first | refine gif_ways (fun h => ?_) (fun h => ?_) | refine cif_ways (fun h => ?_) (fun h => ?_)) <;> (try simp only [decide_eq_true_eq, decide_eq_false_iff_not, Bool.not_eq_true', Bool.not_eq_false', Bool.not_true, Bool.not_false] at h) <;> (try (exfalso; omega)))) <;> (try (simp (disch := omega) only [sx0, sx1, sx2, sx3, sx4, sx5, sx6, isBytes, ATy.isAgg, ATy.known, tyb, Nat.reduceAdd, Nat.reduceMul, Nat.reduceEqDiff, Nat.reduceLT, Nat.reduceLeDiff, ↓reduceIte, implies_true, decide_true, decide_false, ne_eq, Value.oneCell', Int.reduceToNat, ite_self, beq_self_eq_true, bne_self_eq_false, gt_iff_lt, Int.reduceEq, Int.reduceLT, Int.reduceLE, Int.reduceNe, List.forall_mem_cons, false_implies, forall_const, *])))))
  all_goals simp only [sxc, sx6, z0, p0, Nat.reduceEqDiff, ↓reduceIte, AV.ex.injEq, Value.bool.injEq, Value.int.injEq, Value.string.injEq, List.all_append, List.map_append, Tryd.f31, *]
theorem split_dot {s t : ByteArray} {d W : Nat} {y : UInt8} (hTr : Con Tryd.prog Ctx 36 [.ex (.string s), .ex (.string ⟨#[45]⟩)] (.val (.ex (.string t)))) (htz : t.size ≤ 140737488355328) (hd4 : d ≤ 4) (hd : 0 < d) (hW1 : 1 ≤ W) (hl : t.size ≤ W + d + 1) (hg : W + d + 1 ≤ t.size) (hy : t[W]'(by omega) = y) (h46 : ¬ (y.toNat : Int) = 46) :
    Con Tryd.prog Ctx 31 [.ex (.string s), .ex (.int .i64 d)] (.val (.tup [.ex (.string ⟨#[]⟩), .ex (.bool false)])) := by
  refine con_val base Tryd.func31 rfl rfl (by kernel_rfl) (Nat.le_of_ble_eq_true rfl) ?_
  rw [init_eq]
  have t1 : ((t.size : Int) - ((d : Int) + 1)).toNat = W := by omega
  (repeat' (first
    | refine awp_seq ?_
    | refine awp_block ?_
    | (refine awp_ret ?_; simp only [then_ret, block_ret, end_ret])
    | ((first
        | refine call_val (by first | (simp only [sxc, sx6, z0, p0, Nat.reduceEqDiff, ↓reduceIte, AV.ex.injEq, Value.bool.injEq, Value.int.injEq, Value.string.injEq, List.all_append, List.map_append]; (try rfl); done) | (simp only [sxc, sx6, z0, p0, Nat.reduceEqDiff, ↓reduceIte, AV.ex.injEq, Value.bool.injEq, Value.int.injEq, Value.string.injEq, List.all_append, List.map_append, *]; (try rfl); done)) (hTr) ?_
        | refine vplain ?_
        | refine vdraws (by kernel_rfl) ?_
        | refine vbuildS (by simp only [tyb, elemOf_s]) (by simp only [tyb, elemOf_s, List.length_cons, List.length_nil, List.all_cons, List.all_nil, Value.oneCell', Bool.and_self, Nat.reduceAdd, Nat.reduceMul, Nat.reduceLeDiff, Nat.reduceLT, true_and, and_true, and_self, Nat.lt_add_one, Nat.zero_mul, Nat.zero_le, Nat.one_mul]) ?_
        | refine vcond ?_
        | refine awp_exit ?_
        | refine awp_skip ?_
        | refine And.intro (by first | omega | assumption | exact setOk_ge (by decide +kernel) | exact setOk_late (by decide +kernel) (by (simp (disch := omega) only [sx0, sx1, sx2, sx3, sx4, sx5, sx6, isBytes, ATy.isAgg, ATy.known, tyb, Nat.reduceAdd, Nat.reduceMul, Nat.reduceEqDiff, Nat.reduceLT, Nat.reduceLeDiff, ↓reduceIte, implies_true, decide_true, decide_false, ne_eq, Value.oneCell', Int.reduceToNat, ite_self, beq_self_eq_true, bne_self_eq_false, gt_iff_lt, Int.reduceEq, Int.reduceLT, Int.reduceLE, Int.reduceNe, List.forall_mem_cons, false_implies, forall_const, natS, *]; rfl)) (by refine wkR_row ?_; repeat' (first | exact trivial | refine wkL_c (by decide +kernel) ?_)) | exact Nat.le_of_ble_eq_true (by kernel_rfl)) ?_
        | refine nqif_ways (fun h => ?_) ?_
        | ((first | refine gif_ways (fun h => ?_) (fun h => ?_) | refine cif_ways (fun h => ?_) (fun h => ?_)) <;> (try simp only [decide_eq_true_eq, decide_eq_false_iff_not, Bool.not_eq_true', Bool.not_eq_false', Bool.not_true, Bool.not_false] at h) <;> (try (exfalso; omega)))) <;> (try (simp (disch := omega) only [sx0, sx1, sx2, sx3, sx4, sx5, sx6, isBytes, ATy.isAgg, ATy.known, tyb, Nat.reduceAdd, Nat.reduceMul, Nat.reduceEqDiff, Nat.reduceLT, Nat.reduceLeDiff, ↓reduceIte, implies_true, decide_true, decide_false, ne_eq, Value.oneCell', Int.reduceToNat, ite_self, beq_self_eq_true, bne_self_eq_false, gt_iff_lt, Int.reduceEq, Int.reduceLT, Int.reduceLE, Int.reduceNe, List.forall_mem_cons, false_implies, forall_const, *])))))
  all_goals simp only [sxc, sx6, z0, p0, Nat.reduceEqDiff, ↓reduceIte, AV.ex.injEq, Value.bool.injEq, Value.int.injEq, Value.string.injEq, List.all_append, List.map_append, Tryd.f31, *]
theorem split_in1 {s t u v r : ByteArray} {d W : Nat} {x y : UInt8} {bu br : Bool} (hd : 0 < d) (hd4 : d ≤ 4) (htz : t.size ≤ 140737488355328) (hW1 : 1 ≤ W) (hl : t.size ≤ W + d + 1) (hg : W + d + 1 ≤ t.size) (hy : t[W]'(by omega) = y) (h46 : (y.toNat : Int) = 46)
    (hu : t.extract 0 W = u) (hv : t.extract W t.size = v) (huz : u.size = W) (hrz : r.size = d) (hx : u[0]'(by omega) = x) (te : (u = ⟨#[]⟩) = False)
    (hTr : Con Tryd.prog Ctx 36 [.ex (.string s), .ex (.string ⟨#[45]⟩)] (.val (.ex (.string t)))) (hTv : Con Tryd.prog Ctx 36 [.ex (.string v), .ex (.string ⟨#[46]⟩)] (.val (.ex (.string r))))
    (hPu : Con Tryd.prog Ctx 37 [.ex (.string u)] (.val (.ex (.bool bu)))) (hPr : Con Tryd.prog Ctx 37 [.ex (.string r)] (.val (.ex (.bool br)))) (h1 : (x.toNat : Int) = 48) (h2 : 1 < u.size) (_hp : True) :
    Con Tryd.prog Ctx 31 [.ex (.string s), .ex (.int .i64 d)] (.val (.tup [.ex (.string (⟨#[]⟩)), .ex (.bool false)])) := by
  refine con_val base Tryd.func31 rfl rfl (by kernel_rfl) (Nat.le_of_ble_eq_true rfl) ?_
  rw [init_eq]
  have t1 : ((t.size : Int) - ((d : Int) + 1)).toNat = W := by omega
  (repeat' (first
    | refine awp_seq ?_
    | refine awp_block ?_
    | (refine awp_ret ?_; simp only [then_ret, block_ret, end_ret])
    | ((first
        | refine call_val (by first | (simp only [sxc, sx6, z0, p0, Nat.reduceEqDiff, ↓reduceIte, AV.ex.injEq, Value.bool.injEq, Value.int.injEq, Value.string.injEq, List.all_append, List.map_append]; (try rfl); done) | (simp only [sxc, sx6, z0, p0, Nat.reduceEqDiff, ↓reduceIte, AV.ex.injEq, Value.bool.injEq, Value.int.injEq, Value.string.injEq, List.all_append, List.map_append, *]; (try rfl); done)) (hTr) ?_
        | refine call_val (by first | (simp only [sxc, sx6, z0, p0, Nat.reduceEqDiff, ↓reduceIte, AV.ex.injEq, Value.bool.injEq, Value.int.injEq, Value.string.injEq, List.all_append, List.map_append]; (try rfl); done) | (simp only [sxc, sx6, z0, p0, Nat.reduceEqDiff, ↓reduceIte, AV.ex.injEq, Value.bool.injEq, Value.int.injEq, Value.string.injEq, List.all_append, List.map_append, *]; (try rfl); done)) (hTv) ?_
        | refine call_val (by first | (simp only [sxc, sx6, z0, p0, Nat.reduceEqDiff, ↓reduceIte, AV.ex.injEq, Value.bool.injEq, Value.int.injEq, Value.string.injEq, List.all_append, List.map_append]; (try rfl); done) | (simp only [sxc, sx6, z0, p0, Nat.reduceEqDiff, ↓reduceIte, AV.ex.injEq, Value.bool.injEq, Value.int.injEq, Value.string.injEq, List.all_append, List.map_append, *]; (try rfl); done)) (hPu) ?_
        | refine call_val (by first | (simp only [sxc, sx6, z0, p0, Nat.reduceEqDiff, ↓reduceIte, AV.ex.injEq, Value.bool.injEq, Value.int.injEq, Value.string.injEq, List.all_append, List.map_append]; (try rfl); done) | (simp only [sxc, sx6, z0, p0, Nat.reduceEqDiff, ↓reduceIte, AV.ex.injEq, Value.bool.injEq, Value.int.injEq, Value.string.injEq, List.all_append, List.map_append, *]; (try rfl); done)) (hPr) ?_
        | refine vplain ?_
        | refine vdraws (by kernel_rfl) ?_
        | refine vbuildS (by simp only [tyb, elemOf_s]) (by simp only [tyb, elemOf_s, List.length_cons, List.length_nil, List.all_cons, List.all_nil, Value.oneCell', Bool.and_self, Nat.reduceAdd, Nat.reduceMul, Nat.reduceLeDiff, Nat.reduceLT, true_and, and_true, and_self, Nat.lt_add_one, Nat.zero_mul, Nat.zero_le, Nat.one_mul]) ?_
        | refine vcond ?_
        | refine awp_exit ?_
        | refine awp_skip ?_
        | refine And.intro (by first | omega | assumption | exact setOk_ge (by decide +kernel) | exact setOk_late (by decide +kernel) (by (simp (disch := omega) only [sx0, sx1, sx2, sx3, sx4, sx5, sx6, isBytes, ATy.isAgg, ATy.known, tyb, Nat.reduceAdd, Nat.reduceMul, Nat.reduceEqDiff, Nat.reduceLT, Nat.reduceLeDiff, ↓reduceIte, implies_true, decide_true, decide_false, ne_eq, Value.oneCell', Int.reduceToNat, ite_self, beq_self_eq_true, bne_self_eq_false, gt_iff_lt, Int.reduceEq, Int.reduceLT, Int.reduceLE, Int.reduceNe, List.forall_mem_cons, false_implies, forall_const, natS, *]; rfl)) (by refine wkR_row ?_; repeat' (first | exact trivial | refine wkL_c (by decide +kernel) ?_)) | exact Nat.le_of_ble_eq_true (by kernel_rfl)) ?_
        | refine nqif_ways (fun h => ?_) ?_
        | ((first | refine gif_ways (fun h => ?_) (fun h => ?_) | refine cif_ways (fun h => ?_) (fun h => ?_)) <;> (try simp only [decide_eq_true_eq, decide_eq_false_iff_not, Bool.not_eq_true', Bool.not_eq_false', Bool.not_true, Bool.not_false] at h) <;> (try (exfalso; omega)))) <;> (try (simp (disch := omega) only [sx0, sx1, sx2, sx3, sx4, sx5, sx6, isBytes, ATy.isAgg, ATy.known, tyb, Nat.reduceAdd, Nat.reduceMul, Nat.reduceEqDiff, Nat.reduceLT, Nat.reduceLeDiff, ↓reduceIte, implies_true, decide_true, decide_false, ne_eq, Value.oneCell', Int.reduceToNat, ite_self, beq_self_eq_true, bne_self_eq_false, gt_iff_lt, Int.reduceEq, Int.reduceLT, Int.reduceLE, Int.reduceNe, List.forall_mem_cons, false_implies, forall_const, *])))))
  all_goals simp only [sxc, sx6, z0, p0, Nat.reduceEqDiff, ↓reduceIte, AV.ex.injEq, Value.bool.injEq, Value.int.injEq, Value.string.injEq, List.all_append, List.map_append, Tryd.f31, *]
theorem split_in2 {s t u v r : ByteArray} {d W : Nat} {x y : UInt8} {br : Bool} (hd : 0 < d) (hd4 : d ≤ 4) (htz : t.size ≤ 140737488355328) (hW1 : 1 ≤ W) (hl : t.size ≤ W + d + 1) (hg : W + d + 1 ≤ t.size) (hy : t[W]'(by omega) = y) (h46 : (y.toNat : Int) = 46)
    (hu : t.extract 0 W = u) (hv : t.extract W t.size = v) (huz : u.size = W) (hrz : r.size = d) (hx : u[0]'(by omega) = x) (te : (u = ⟨#[]⟩) = False)
    (hTr : Con Tryd.prog Ctx 36 [.ex (.string s), .ex (.string ⟨#[45]⟩)] (.val (.ex (.string t)))) (hTv : Con Tryd.prog Ctx 36 [.ex (.string v), .ex (.string ⟨#[46]⟩)] (.val (.ex (.string r))))
    (hPu : Con Tryd.prog Ctx 37 [.ex (.string u)] (.val (.ex (.bool false)))) (hPr : Con Tryd.prog Ctx 37 [.ex (.string r)] (.val (.ex (.bool br)))) (h1 : ¬ (x.toNat : Int) = 48 ∨ u.size ≤ 1) (_h2 : True) (_hp : True) :
    Con Tryd.prog Ctx 31 [.ex (.string s), .ex (.int .i64 d)] (.val (.tup [.ex (.string (⟨#[]⟩)), .ex (.bool false)])) := by
  refine con_val base Tryd.func31 rfl rfl (by kernel_rfl) (Nat.le_of_ble_eq_true rfl) ?_
  rw [init_eq]
  have t1 : ((t.size : Int) - ((d : Int) + 1)).toNat = W := by omega
  (repeat' (first
    | refine awp_seq ?_
    | refine awp_block ?_
    | (refine awp_ret ?_; simp only [then_ret, block_ret, end_ret])
    | ((first
        | refine call_val (by first | (simp only [sxc, sx6, z0, p0, Nat.reduceEqDiff, ↓reduceIte, AV.ex.injEq, Value.bool.injEq, Value.int.injEq, Value.string.injEq, List.all_append, List.map_append]; (try rfl); done) | (simp only [sxc, sx6, z0, p0, Nat.reduceEqDiff, ↓reduceIte, AV.ex.injEq, Value.bool.injEq, Value.int.injEq, Value.string.injEq, List.all_append, List.map_append, *]; (try rfl); done)) (hTr) ?_
        | refine call_val (by first | (simp only [sxc, sx6, z0, p0, Nat.reduceEqDiff, ↓reduceIte, AV.ex.injEq, Value.bool.injEq, Value.int.injEq, Value.string.injEq, List.all_append, List.map_append]; (try rfl); done) | (simp only [sxc, sx6, z0, p0, Nat.reduceEqDiff, ↓reduceIte, AV.ex.injEq, Value.bool.injEq, Value.int.injEq, Value.string.injEq, List.all_append, List.map_append, *]; (try rfl); done)) (hTv) ?_
        | refine call_val (by first | (simp only [sxc, sx6, z0, p0, Nat.reduceEqDiff, ↓reduceIte, AV.ex.injEq, Value.bool.injEq, Value.int.injEq, Value.string.injEq, List.all_append, List.map_append]; (try rfl); done) | (simp only [sxc, sx6, z0, p0, Nat.reduceEqDiff, ↓reduceIte, AV.ex.injEq, Value.bool.injEq, Value.int.injEq, Value.string.injEq, List.all_append, List.map_append, *]; (try rfl); done)) (hPu) ?_
        | refine call_val (by first | (simp only [sxc, sx6, z0, p0, Nat.reduceEqDiff, ↓reduceIte, AV.ex.injEq, Value.bool.injEq, Value.int.injEq, Value.string.injEq, List.all_append, List.map_append]; (try rfl); done) | (simp only [sxc, sx6, z0, p0, Nat.reduceEqDiff, ↓reduceIte, AV.ex.injEq, Value.bool.injEq, Value.int.injEq, Value.string.injEq, List.all_append, List.map_append, *]; (try rfl); done)) (hPr) ?_
        | refine vplain ?_
        | refine vdraws (by kernel_rfl) ?_
        | refine vbuildS (by simp only [tyb, elemOf_s]) (by simp only [tyb, elemOf_s, List.length_cons, List.length_nil, List.all_cons, List.all_nil, Value.oneCell', Bool.and_self, Nat.reduceAdd, Nat.reduceMul, Nat.reduceLeDiff, Nat.reduceLT, true_and, and_true, and_self, Nat.lt_add_one, Nat.zero_mul, Nat.zero_le, Nat.one_mul]) ?_
        | refine vcond ?_
        | refine awp_exit ?_
        | refine awp_skip ?_
        | refine And.intro (by first | omega | assumption | exact setOk_ge (by decide +kernel) | exact setOk_late (by decide +kernel) (by (simp (disch := omega) only [sx0, sx1, sx2, sx3, sx4, sx5, sx6, isBytes, ATy.isAgg, ATy.known, tyb, Nat.reduceAdd, Nat.reduceMul, Nat.reduceEqDiff, Nat.reduceLT, Nat.reduceLeDiff, ↓reduceIte, implies_true, decide_true, decide_false, ne_eq, Value.oneCell', Int.reduceToNat, ite_self, beq_self_eq_true, bne_self_eq_false, gt_iff_lt, Int.reduceEq, Int.reduceLT, Int.reduceLE, Int.reduceNe, List.forall_mem_cons, false_implies, forall_const, natS, *]; rfl)) (by refine wkR_row ?_; repeat' (first | exact trivial | refine wkL_c (by decide +kernel) ?_)) | exact Nat.le_of_ble_eq_true (by kernel_rfl)) ?_
        | refine nqif_ways (fun h => ?_) ?_
        | ((first | refine gif_ways (fun h => ?_) (fun h => ?_) | refine cif_ways (fun h => ?_) (fun h => ?_)) <;> (try simp only [decide_eq_true_eq, decide_eq_false_iff_not, Bool.not_eq_true', Bool.not_eq_false', Bool.not_true, Bool.not_false] at h) <;> (try (exfalso; omega)))) <;> (try (simp (disch := omega) only [sx0, sx1, sx2, sx3, sx4, sx5, sx6, isBytes, ATy.isAgg, ATy.known, tyb, Nat.reduceAdd, Nat.reduceMul, Nat.reduceEqDiff, Nat.reduceLT, Nat.reduceLeDiff, ↓reduceIte, implies_true, decide_true, decide_false, ne_eq, Value.oneCell', Int.reduceToNat, ite_self, beq_self_eq_true, bne_self_eq_false, gt_iff_lt, Int.reduceEq, Int.reduceLT, Int.reduceLE, Int.reduceNe, List.forall_mem_cons, false_implies, forall_const, *])))))
  all_goals simp only [sxc, sx6, z0, p0, Nat.reduceEqDiff, ↓reduceIte, AV.ex.injEq, Value.bool.injEq, Value.int.injEq, Value.string.injEq, List.all_append, List.map_append, Tryd.f31, *]
theorem split_in3 {s t u v r : ByteArray} {d W : Nat} {x y : UInt8} (hd : 0 < d) (hd4 : d ≤ 4) (htz : t.size ≤ 140737488355328) (hW1 : 1 ≤ W) (hl : t.size ≤ W + d + 1) (hg : W + d + 1 ≤ t.size) (hy : t[W]'(by omega) = y) (h46 : (y.toNat : Int) = 46)
    (hu : t.extract 0 W = u) (hv : t.extract W t.size = v) (huz : u.size = W) (hrz : r.size = d) (hx : u[0]'(by omega) = x) (te : (u = ⟨#[]⟩) = False)
    (hTr : Con Tryd.prog Ctx 36 [.ex (.string s), .ex (.string ⟨#[45]⟩)] (.val (.ex (.string t)))) (hTv : Con Tryd.prog Ctx 36 [.ex (.string v), .ex (.string ⟨#[46]⟩)] (.val (.ex (.string r))))
    (hPu : Con Tryd.prog Ctx 37 [.ex (.string u)] (.val (.ex (.bool true)))) (hPr : Con Tryd.prog Ctx 37 [.ex (.string r)] (.val (.ex (.bool false)))) (h1 : ¬ (x.toNat : Int) = 48 ∨ u.size ≤ 1) (_h2 : True) (_hp : True) :
    Con Tryd.prog Ctx 31 [.ex (.string s), .ex (.int .i64 d)] (.val (.tup [.ex (.string (⟨#[]⟩)), .ex (.bool false)])) := by
  refine con_val base Tryd.func31 rfl rfl (by kernel_rfl) (Nat.le_of_ble_eq_true rfl) ?_
  rw [init_eq]
  have t1 : ((t.size : Int) - ((d : Int) + 1)).toNat = W := by omega
  (repeat' (first
    | refine awp_seq ?_
    | refine awp_block ?_
    | (refine awp_ret ?_; simp only [then_ret, block_ret, end_ret])
    | ((first
        | refine call_val (by first | (simp only [sxc, sx6, z0, p0, Nat.reduceEqDiff, ↓reduceIte, AV.ex.injEq, Value.bool.injEq, Value.int.injEq, Value.string.injEq, List.all_append, List.map_append]; (try rfl); done) | (simp only [sxc, sx6, z0, p0, Nat.reduceEqDiff, ↓reduceIte, AV.ex.injEq, Value.bool.injEq, Value.int.injEq, Value.string.injEq, List.all_append, List.map_append, *]; (try rfl); done)) (hTr) ?_
        | refine call_val (by first | (simp only [sxc, sx6, z0, p0, Nat.reduceEqDiff, ↓reduceIte, AV.ex.injEq, Value.bool.injEq, Value.int.injEq, Value.string.injEq, List.all_append, List.map_append]; (try rfl); done) | (simp only [sxc, sx6, z0, p0, Nat.reduceEqDiff, ↓reduceIte, AV.ex.injEq, Value.bool.injEq, Value.int.injEq, Value.string.injEq, List.all_append, List.map_append, *]; (try rfl); done)) (hTv) ?_
        | refine call_val (by first | (simp only [sxc, sx6, z0, p0, Nat.reduceEqDiff, ↓reduceIte, AV.ex.injEq, Value.bool.injEq, Value.int.injEq, Value.string.injEq, List.all_append, List.map_append]; (try rfl); done) | (simp only [sxc, sx6, z0, p0, Nat.reduceEqDiff, ↓reduceIte, AV.ex.injEq, Value.bool.injEq, Value.int.injEq, Value.string.injEq, List.all_append, List.map_append, *]; (try rfl); done)) (hPu) ?_
        | refine call_val (by first | (simp only [sxc, sx6, z0, p0, Nat.reduceEqDiff, ↓reduceIte, AV.ex.injEq, Value.bool.injEq, Value.int.injEq, Value.string.injEq, List.all_append, List.map_append]; (try rfl); done) | (simp only [sxc, sx6, z0, p0, Nat.reduceEqDiff, ↓reduceIte, AV.ex.injEq, Value.bool.injEq, Value.int.injEq, Value.string.injEq, List.all_append, List.map_append, *]; (try rfl); done)) (hPr) ?_
        | refine vplain ?_
        | refine vdraws (by kernel_rfl) ?_
        | refine vbuildS (by simp only [tyb, elemOf_s]) (by simp only [tyb, elemOf_s, List.length_cons, List.length_nil, List.all_cons, List.all_nil, Value.oneCell', Bool.and_self, Nat.reduceAdd, Nat.reduceMul, Nat.reduceLeDiff, Nat.reduceLT, true_and, and_true, and_self, Nat.lt_add_one, Nat.zero_mul, Nat.zero_le, Nat.one_mul]) ?_
        | refine vcond ?_
        | refine awp_exit ?_
        | refine awp_skip ?_
        | refine And.intro (by first | omega | assumption | exact setOk_ge (by decide +kernel) | exact setOk_late (by decide +kernel) (by (simp (disch := omega) only [sx0, sx1, sx2, sx3, sx4, sx5, sx6, isBytes, ATy.isAgg, ATy.known, tyb, Nat.reduceAdd, Nat.reduceMul, Nat.reduceEqDiff, Nat.reduceLT, Nat.reduceLeDiff, ↓reduceIte, implies_true, decide_true, decide_false, ne_eq, Value.oneCell', Int.reduceToNat, ite_self, beq_self_eq_true, bne_self_eq_false, gt_iff_lt, Int.reduceEq, Int.reduceLT, Int.reduceLE, Int.reduceNe, List.forall_mem_cons, false_implies, forall_const, natS, *]; rfl)) (by refine wkR_row ?_; repeat' (first | exact trivial | refine wkL_c (by decide +kernel) ?_)) | exact Nat.le_of_ble_eq_true (by kernel_rfl)) ?_
        | refine nqif_ways (fun h => ?_) ?_
        | ((first | refine gif_ways (fun h => ?_) (fun h => ?_) | refine cif_ways (fun h => ?_) (fun h => ?_)) <;> (try simp only [decide_eq_true_eq, decide_eq_false_iff_not, Bool.not_eq_true', Bool.not_eq_false', Bool.not_true, Bool.not_false] at h) <;> (try (exfalso; omega)))) <;> (try (simp (disch := omega) only [sx0, sx1, sx2, sx3, sx4, sx5, sx6, isBytes, ATy.isAgg, ATy.known, tyb, Nat.reduceAdd, Nat.reduceMul, Nat.reduceEqDiff, Nat.reduceLT, Nat.reduceLeDiff, ↓reduceIte, implies_true, decide_true, decide_false, ne_eq, Value.oneCell', Int.reduceToNat, ite_self, beq_self_eq_true, bne_self_eq_false, gt_iff_lt, Int.reduceEq, Int.reduceLT, Int.reduceLE, Int.reduceNe, List.forall_mem_cons, false_implies, forall_const, *])))))
  all_goals simp only [sxc, sx6, z0, p0, Nat.reduceEqDiff, ↓reduceIte, AV.ex.injEq, Value.bool.injEq, Value.int.injEq, Value.string.injEq, List.all_append, List.map_append, Tryd.f31, *]
theorem split_in4 {s t u v r : ByteArray} {d W : Nat} {x y : UInt8} (hd : 0 < d) (hd4 : d ≤ 4) (htz : t.size ≤ 140737488355328) (hW1 : 1 ≤ W) (hl : t.size ≤ W + d + 1) (hg : W + d + 1 ≤ t.size) (hy : t[W]'(by omega) = y) (h46 : (y.toNat : Int) = 46)
    (hu : t.extract 0 W = u) (hv : t.extract W t.size = v) (huz : u.size = W) (hrz : r.size = d) (hx : u[0]'(by omega) = x) (te : (u = ⟨#[]⟩) = False)
    (hTr : Con Tryd.prog Ctx 36 [.ex (.string s), .ex (.string ⟨#[45]⟩)] (.val (.ex (.string t)))) (hTv : Con Tryd.prog Ctx 36 [.ex (.string v), .ex (.string ⟨#[46]⟩)] (.val (.ex (.string r))))
    (hPu : Con Tryd.prog Ctx 37 [.ex (.string u)] (.val (.ex (.bool true)))) (hPr : Con Tryd.prog Ctx 37 [.ex (.string r)] (.val (.ex (.bool true)))) (h1 : ¬ (x.toNat : Int) = 48 ∨ u.size ≤ 1) (_h2 : True) (_hp : True) :
    Con Tryd.prog Ctx 31 [.ex (.string s), .ex (.int .i64 d)] (.val (.tup [.ex (.string (u ++ r)), .ex (.bool true)])) := by
  refine con_val base Tryd.func31 rfl rfl (by kernel_rfl) (Nat.le_of_ble_eq_true rfl) ?_
  rw [init_eq]
  have t1 : ((t.size : Int) - ((d : Int) + 1)).toNat = W := by omega
  (repeat' (first
    | refine awp_seq ?_
    | refine awp_block ?_
    | (refine awp_ret ?_; simp only [then_ret, block_ret, end_ret])
    | ((first
        | refine call_val (by first | (simp only [sxc, sx6, z0, p0, Nat.reduceEqDiff, ↓reduceIte, AV.ex.injEq, Value.bool.injEq, Value.int.injEq, Value.string.injEq, List.all_append, List.map_append]; (try rfl); done) | (simp only [sxc, sx6, z0, p0, Nat.reduceEqDiff, ↓reduceIte, AV.ex.injEq, Value.bool.injEq, Value.int.injEq, Value.string.injEq, List.all_append, List.map_append, *]; (try rfl); done)) (hTr) ?_
        | refine call_val (by first | (simp only [sxc, sx6, z0, p0, Nat.reduceEqDiff, ↓reduceIte, AV.ex.injEq, Value.bool.injEq, Value.int.injEq, Value.string.injEq, List.all_append, List.map_append]; (try rfl); done) | (simp only [sxc, sx6, z0, p0, Nat.reduceEqDiff, ↓reduceIte, AV.ex.injEq, Value.bool.injEq, Value.int.injEq, Value.string.injEq, List.all_append, List.map_append, *]; (try rfl); done)) (hTv) ?_
        | refine call_val (by first | (simp only [sxc, sx6, z0, p0, Nat.reduceEqDiff, ↓reduceIte, AV.ex.injEq, Value.bool.injEq, Value.int.injEq, Value.string.injEq, List.all_append, List.map_append]; (try rfl); done) | (simp only [sxc, sx6, z0, p0, Nat.reduceEqDiff, ↓reduceIte, AV.ex.injEq, Value.bool.injEq, Value.int.injEq, Value.string.injEq, List.all_append, List.map_append, *]; (try rfl); done)) (hPu) ?_
        | refine call_val (by first | (simp only [sxc, sx6, z0, p0, Nat.reduceEqDiff, ↓reduceIte, AV.ex.injEq, Value.bool.injEq, Value.int.injEq, Value.string.injEq, List.all_append, List.map_append]; (try rfl); done) | (simp only [sxc, sx6, z0, p0, Nat.reduceEqDiff, ↓reduceIte, AV.ex.injEq, Value.bool.injEq, Value.int.injEq, Value.string.injEq, List.all_append, List.map_append, *]; (try rfl); done)) (hPr) ?_
        | refine vplain ?_
        | refine vdraws (by kernel_rfl) ?_
        | refine vbuildS (by simp only [tyb, elemOf_s]) (by simp only [tyb, elemOf_s, List.length_cons, List.length_nil, List.all_cons, List.all_nil, Value.oneCell', Bool.and_self, Nat.reduceAdd, Nat.reduceMul, Nat.reduceLeDiff, Nat.reduceLT, true_and, and_true, and_self, Nat.lt_add_one, Nat.zero_mul, Nat.zero_le, Nat.one_mul]) ?_
        | refine vcond ?_
        | refine awp_exit ?_
        | refine awp_skip ?_
        | refine And.intro (by first | omega | assumption | exact setOk_ge (by decide +kernel) | exact setOk_late (by decide +kernel) (by (simp (disch := omega) only [sx0, sx1, sx2, sx3, sx4, sx5, sx6, isBytes, ATy.isAgg, ATy.known, tyb, Nat.reduceAdd, Nat.reduceMul, Nat.reduceEqDiff, Nat.reduceLT, Nat.reduceLeDiff, ↓reduceIte, implies_true, decide_true, decide_false, ne_eq, Value.oneCell', Int.reduceToNat, ite_self, beq_self_eq_true, bne_self_eq_false, gt_iff_lt, Int.reduceEq, Int.reduceLT, Int.reduceLE, Int.reduceNe, List.forall_mem_cons, false_implies, forall_const, natS, *]; rfl)) (by refine wkR_row ?_; repeat' (first | exact trivial | refine wkL_c (by decide +kernel) ?_)) | exact Nat.le_of_ble_eq_true (by kernel_rfl)) ?_
        | refine nqif_ways (fun h => ?_) ?_
        | ((first | refine gif_ways (fun h => ?_) (fun h => ?_) | refine cif_ways (fun h => ?_) (fun h => ?_)) <;> (try simp only [decide_eq_true_eq, decide_eq_false_iff_not, Bool.not_eq_true', Bool.not_eq_false', Bool.not_true, Bool.not_false] at h) <;> (try (exfalso; omega)))) <;> (try (simp (disch := omega) only [sx0, sx1, sx2, sx3, sx4, sx5, sx6, isBytes, ATy.isAgg, ATy.known, tyb, Nat.reduceAdd, Nat.reduceMul, Nat.reduceEqDiff, Nat.reduceLT, Nat.reduceLeDiff, ↓reduceIte, implies_true, decide_true, decide_false, ne_eq, Value.oneCell', Int.reduceToNat, ite_self, beq_self_eq_true, bne_self_eq_false, gt_iff_lt, Int.reduceEq, Int.reduceLT, Int.reduceLE, Int.reduceNe, List.forall_mem_cons, false_implies, forall_const, *])))))
  all_goals simp only [sxc, sx6, z0, p0, Nat.reduceEqDiff, ↓reduceIte, AV.ex.injEq, Value.bool.injEq, Value.int.injEq, Value.string.injEq, List.all_append, List.map_append, Tryd.f31, *]
theorem split_d (s : ByteArray) (d : Nat) (hs : s.size ≤ 140737488355328) (hd : 0 < d) (hd4 : d ≤ 4) : Con Tryd.prog Ctx 31 [.ex (.string s), .ex (.int .i64 d)] (.val (.tup [.ex (.string (splitT (splitF (digL s.data.toList) d))), .ex (.bool (splitF (digL s.data.toList) d).isSome)])) := by
  have hTr := TrimPrefix_con s 45 (by omega)
  have htd := trim_dig s
  have htz : (trimS s 45).size ≤ 140737488355328 := by
    unfold trimS
    split
    · rw [ByteArray.size_extract]; omega
    · omega
  generalize trimS s 45 = t at hTr htd htz
  rw [← htd]
  clear htd
  by_cases hsh : t.size < d + 2
  · obtain ⟨r1, r2⟩ := split_nope (split_short (T := t.data.toList) hd (by rw [size_toList]; exact hsh))
    rw [r1, r2]
    exact split_sh hTr htz hsh hd4 hd
  · obtain ⟨W, hW⟩ : ∃ W, t.size = W + d + 1 := ⟨t.size - d - 1, by omega⟩
    have hW1 : 1 ≤ W := by omega
    have hF := splitF_pos hd (show t.data.toList.length = W + d + 1 by rw [size_toList]; exact hW) hW1
    have fW := byte_at t W (by omega)
    by_cases h46 : (t[W]'(by omega)).toNat = 46
    · obtain ⟨u, hu⟩ : ∃ u, t.extract 0 W = u := ⟨_, rfl⟩
      obtain ⟨v, hv⟩ : ∃ v, t.extract W t.size = v := ⟨_, rfl⟩
      have hul : u.data.toList = t.data.toList.take W := by rw [← hu, ext_list, List.drop_zero]
      have huz : u.size = W := by rw [← size_toList, hul, List.length_take, size_toList]; omega
      have hvl : v.data.toList = t.data.toList.drop W := by rw [← hv, ext_list, List.take_of_length_le (by rw [size_toList]; exact Nat.le_refl _)]
      have hvz : v.size = d + 1 := by rw [← size_toList, hvl, List.length_drop, size_toList]; omega
      have e46 : t[W]'(by omega) = 46 := u8_eq.2 h46
      obtain ⟨r, hr⟩ : ∃ r, trimS v 46 = r := ⟨_, rfl⟩
      have hrl : r.data.toList = t.data.toList.drop (W + 1) := by
        have hb : hasB v.data.toList 46 = true := by
          unfold hasB
          rw [decide_eq_true_eq, List.head?_eq_getElem?, hvl, List.getElem?_drop, Nat.add_zero, fW, e46]
        rw [← hr, trimS, if_pos hb, tail_list, hvl, List.drop_drop]
      have hrz : r.size = d := by rw [← size_toList, hrl, List.length_drop, size_toList]; omega
      have hTv := TrimPrefix_con v 46 (by omega)
      rw [hr] at hTv
      have hPu := plain_con u (by omega)
      have hPr := plain_con r (by omega)
      have te := str_ne (t := u) (by omega)
      have f0 := byte_at u 0 (by omega)
      have h46' : ((t[W]'(by omega)).toNat : Int) = 46 := by omega
      have nope : natL u.data.toList = false ∨ allD r.data.toList = false → splitF t.data.toList d = none := fun g => by
        rw [hF, if_neg]
        rintro ⟨_, g1, g2⟩
        rcases g with g | g
        · rw [hul, g1] at g; cases g
        · unfold allD at g; rw [hrl, g2] at g; cases g
      by_cases h48 : (u[0]'(by omega)).toNat = 48 ∧ 1 < u.size
      · obtain ⟨r1, r2⟩ := split_nope (nope (.inl (nat_no0 f0 h48.1 (by rw [size_toList]; exact h48.2))))
        rw [r1, r2]
        exact split_in1 hd hd4 htz hW1 (by omega) (by omega) rfl h46' hu hv huz hrz rfl te hTr hTv hPu hPr (by omega) h48.2 trivial
      · cases hD : allD u.data.toList with
        | false =>
          obtain ⟨r1, r2⟩ := split_nope (nope (.inl (nat_noD hD)))
          rw [r1, r2]
          rw [hD] at hPu
          exact split_in2 hd hd4 htz hW1 (by omega) (by omega) rfl h46' hu hv huz hrz rfl te hTr hTv hPu hPr (by omega) trivial trivial
        | true =>
          have hn := nat_yes f0 (by rw [size_toList]; exact h48) hD
          rw [hD] at hPu
          cases hR : allD r.data.toList with
          | false =>
            obtain ⟨r1, r2⟩ := split_nope (nope (.inr hR))
            rw [r1, r2]
            rw [hR] at hPr
            exact split_in3 hd hd4 htz hW1 (by omega) (by omega) rfl h46' hu hv huz hrz rfl te hTr hTv hPu hPr (by omega) trivial trivial
          | true =>
            have hyes : splitF t.data.toList d = some (u.data.toList ++ r.data.toList) := by
              rw [hF, if_pos ⟨by rw [fW, e46], by rw [← hul]; exact hn, by rw [← hrl]; exact hR⟩, hul, hrl]
            obtain ⟨r1, r2⟩ := split_some hyes
            rw [r1, r2]
            rw [hR] at hPr
            have hcat : (⟨(u.data.toList ++ r.data.toList).toArray⟩ : ByteArray) = u ++ r := by
              refine ByteArray.ext (Array.ext' ?_)
              simp [ByteArray.data_append]
            rw [hcat]
            exact split_in4 hd hd4 htz hW1 (by omega) (by omega) rfl h46' hu hv huz hrz rfl te hTr hTv hPu hPr (by omega) trivial trivial
    · obtain ⟨r1, r2⟩ := split_nope (show splitF t.data.toList d = none by
        rw [hF, if_neg]
        rintro ⟨g, _⟩
        rw [fW, Option.some.injEq] at g
        exact h46 (by rw [g]; rfl))
      rw [r1, r2]
      exact split_dot hTr htz hd4 hd hW1 (by omega) (by omega) rfl (by omega)
end Go.Proofs.YtaphbajfjmhpnaaDoor
