/-
  Chapter 03, walked: amounts, written. Conditions: those that each theorem states.
-/
import Derived.Test.YtaphbajfjmhpnaaDoorC03D
import Derived.Lib.ItoaLen
namespace Go.Proofs.YtaphbajfjmhpnaaDoor
open Go.RowKit
set_option maxRecDepth 100000
set_option linter.unusedSimpArgs false

theorem dig10 : ∀ d : Fin 10, (⟨#[48, 49, 50, 51, 52, 53, 54, 55, 56, 57]⟩ : ByteArray).extract d.val (d.val + 1) = ⟨#[UInt8.ofNat (48 + d.val)]⟩ := by decide +kernel
theorem dig10' (d : Nat) (h : d < 10) : (⟨#[48, 49, 50, 51, 52, 53, 54, 55, 56, 57]⟩ : ByteArray).extract d (d + 1) = ⟨#[UInt8.ofNat (48 + d)]⟩ := dig10 ⟨d, h⟩
theorem dec_len (n : Nat) (h : n ≤ 9223372036854775807) : (Lib.decDigits n).length ≤ 21 := by
  have := Lib.itoa_length_le (n : Int) (by omega) (by omega)
  rwa [Lib.itoa_nonneg] at this
theorem Power_con (d : Nat) (hd : d ≤ 4) : Con Tryd.prog Ctx 29 [.ex (.int .i64 d)] (.val (.ex (.int .i64 (10 ^ d : Nat)))) := by
  refine con_val base Tryd.func29 rfl rfl (by kernel_rfl) (Nat.le_of_ble_eq_true rfl) ?_
  rw [init_eq]
  (repeat' (first
    | refine awp_seq ?_
    | refine awp_block ?_
    | (refine awp_ret ?_; simp only [then_ret, block_ret, end_ret])
    | ((first
        | refine vplain ?_
        | refine vdraws (by kernel_rfl) ?_
        | refine vbuildS (by simp only [tyb, elemOf_s]) (by simp only [tyb, elemOf_s, List.length_cons, List.length_nil, List.all_cons, List.all_nil, Value.oneCell', Bool.and_self, Nat.reduceAdd, Nat.reduceMul, Nat.reduceLeDiff, Nat.reduceLT, true_and, and_true, and_self, Nat.lt_add_one, Nat.zero_mul, Nat.zero_le, Nat.one_mul]) ?_
        | refine vcond ?_
        | refine awp_exit ?_
        | refine awp_skip ?_
        | refine And.intro (by first | omega | assumption | exact setOk_ge (by decide +kernel) | exact setOk_late (by decide +kernel) (by (simp (disch := omega) only [sx0, sx1, sx2, sx3, sx4, sx5, sx6, isBytes, ATy.isAgg, ATy.known, tyb, Nat.reduceAdd, Nat.reduceMul, Nat.reduceEqDiff, Nat.reduceLT, Nat.reduceLeDiff, ↓reduceIte, implies_true, decide_true, decide_false, ne_eq, Value.oneCell', Int.reduceToNat, ite_self, beq_self_eq_true, bne_self_eq_false, gt_iff_lt, Int.reduceEq, Int.reduceLT, Int.reduceLE, Int.reduceNe, List.forall_mem_cons, false_implies, forall_const, natS, *]; rfl)) (by refine wkR_row ?_; repeat' (first | exact trivial | refine wkL_c (by decide +kernel) ?_)) | exact Nat.le_of_ble_eq_true (by kernel_rfl)) ?_
        | refine nqif_ways (fun h => ?_) ?_
        | ((first | refine gif_ways (fun h => ?_) (fun h => ?_) | refine cif_ways (fun h => ?_) (fun h => ?_)) <;> (try simp only [decide_eq_true_eq, decide_eq_false_iff_not, Bool.not_eq_true', Bool.not_eq_false', Bool.not_true, Bool.not_false] at h) <;> (try (exfalso; omega)))) <;> (try (simp (disch := omega) only [sx0, sx1, sx2, sx3, sx4, sx5, sx6, isBytes, ATy.isAgg, ATy.known, tyb, Nat.reduceAdd, Nat.reduceMul, Nat.reduceEqDiff, Nat.reduceLT, Nat.reduceLeDiff, ↓reduceIte, implies_true, decide_true, decide_false, ne_eq, Value.oneCell', Int.reduceToNat, ite_self, beq_self_eq_true, bne_self_eq_false, gt_iff_lt, Int.reduceEq, Int.reduceLT, Int.reduceLE, Int.reduceNe, List.forall_mem_cons, false_implies, forall_const, *])))))
  refine vloop (fun n tm hp nx => ∃ (k p : Nat), n = d - k ∧ k ≤ d ∧ tm 0 = .ex (.int .i64 d) ∧ tm 4 = .ex (.int .i64 k) ∧ tm 3 = .ex (.int .i64 p) ∧ p ≤ 10000 ∧ Hid (p = 10 ^ k)) d ⟨0, 1, rfl, Nat.zero_le _, by (first | rfl | (simp (disch := omega) only [sx0, sx1, sx2, sx3, sx4, sx5, sx6, isBytes, ATy.isAgg, ATy.known, tyb, Nat.reduceAdd, Nat.reduceMul, Nat.reduceEqDiff, Nat.reduceLT, Nat.reduceLeDiff, ↓reduceIte, implies_true, decide_true, decide_false, ne_eq, Value.oneCell', Int.reduceToNat, ite_self, beq_self_eq_true, bne_self_eq_false, gt_iff_lt, Int.reduceEq, Int.reduceLT, Int.reduceLE, Int.reduceNe, List.forall_mem_cons, false_implies, forall_const, natS, *])), by (first | rfl | (simp (disch := omega) only [sx0, sx1, sx2, sx3, sx4, sx5, sx6, isBytes, ATy.isAgg, ATy.known, tyb, Nat.reduceAdd, Nat.reduceMul, Nat.reduceEqDiff, Nat.reduceLT, Nat.reduceLeDiff, ↓reduceIte, implies_true, decide_true, decide_false, ne_eq, Value.oneCell', Int.reduceToNat, ite_self, beq_self_eq_true, bne_self_eq_false, gt_iff_lt, Int.reduceEq, Int.reduceLT, Int.reduceLE, Int.reduceNe, List.forall_mem_cons, false_implies, forall_const, natS, *])), by (first | rfl | (simp (disch := omega) only [sx0, sx1, sx2, sx3, sx4, sx5, sx6, isBytes, ATy.isAgg, ATy.known, tyb, Nat.reduceAdd, Nat.reduceMul, Nat.reduceEqDiff, Nat.reduceLT, Nat.reduceLeDiff, ↓reduceIte, implies_true, decide_true, decide_false, ne_eq, Value.oneCell', Int.reduceToNat, ite_self, beq_self_eq_true, bne_self_eq_false, gt_iff_lt, Int.reduceEq, Int.reduceLT, Int.reduceLE, Int.reduceNe, List.forall_mem_cons, false_implies, forall_const, natS, *])), by omega, Lib.hid rfl⟩ ?_
  rintro n tm hp nx ⟨k, p, hn, hkl, g0, g4, g3, hpl, hH⟩
  by_cases hlt : k < d
  · have hnx := Lib.hid (show 10 * p = 10 ^ (k + 1) by rw [Nat.pow_succ, hH.out, Nat.mul_comm])
    have hb : 10 * p ≤ 10000 := by
      have h1 : k ≤ 3 := by omega
      have h2 : 10 ^ k ≤ 10 ^ 3 := Nat.pow_le_pow_right (by omega) h1
      rw [hH.out]; omega
    (repeat' (first
    | refine awp_seq ?_
    | refine awp_block ?_
    | (refine awp_ret ?_; simp only [then_ret, block_ret, end_ret])
    | ((first
        | refine vplain ?_
        | refine vdraws (by kernel_rfl) ?_
        | refine vbuildS (by simp only [tyb, elemOf_s]) (by simp only [tyb, elemOf_s, List.length_cons, List.length_nil, List.all_cons, List.all_nil, Value.oneCell', Bool.and_self, Nat.reduceAdd, Nat.reduceMul, Nat.reduceLeDiff, Nat.reduceLT, true_and, and_true, and_self, Nat.lt_add_one, Nat.zero_mul, Nat.zero_le, Nat.one_mul]) ?_
        | refine vcond ?_
        | refine awp_exit ?_
        | refine awp_skip ?_
        | refine And.intro (by first | omega | assumption | exact setOk_ge (by decide +kernel) | exact setOk_late (by decide +kernel) (by (simp (disch := omega) only [sx0, sx1, sx2, sx3, sx4, sx5, sx6, isBytes, ATy.isAgg, ATy.known, tyb, Nat.reduceAdd, Nat.reduceMul, Nat.reduceEqDiff, Nat.reduceLT, Nat.reduceLeDiff, ↓reduceIte, implies_true, decide_true, decide_false, ne_eq, Value.oneCell', Int.reduceToNat, ite_self, beq_self_eq_true, bne_self_eq_false, gt_iff_lt, Int.reduceEq, Int.reduceLT, Int.reduceLE, Int.reduceNe, List.forall_mem_cons, false_implies, forall_const, natS, *]; rfl)) (by refine wkR_row ?_; repeat' (first | exact trivial | refine wkL_c (by decide +kernel) ?_)) | exact Nat.le_of_ble_eq_true (by kernel_rfl)) ?_
        | refine nqif_ways (fun h => ?_) ?_
        | ((first | refine gif_ways (fun h => ?_) (fun h => ?_) | refine cif_ways (fun h => ?_) (fun h => ?_)) <;> (try simp only [decide_eq_true_eq, decide_eq_false_iff_not, Bool.not_eq_true', Bool.not_eq_false', Bool.not_true, Bool.not_false] at h) <;> (try (exfalso; omega)))) <;> (try (simp (disch := omega) only [sx0, sx1, sx2, sx3, sx4, sx5, sx6, isBytes, ATy.isAgg, ATy.known, tyb, Nat.reduceAdd, Nat.reduceMul, Nat.reduceEqDiff, Nat.reduceLT, Nat.reduceLeDiff, ↓reduceIte, implies_true, decide_true, decide_false, ne_eq, Value.oneCell', Int.reduceToNat, ite_self, beq_self_eq_true, bne_self_eq_false, gt_iff_lt, Int.reduceEq, Int.reduceLT, Int.reduceLE, Int.reduceNe, List.forall_mem_cons, false_implies, forall_const, *])))))
    exact kround_i (d - (k + 1)) (by omega) ⟨k + 1, 10 * p, rfl, by omega, by (first | rfl | (simp (disch := omega) only [sx0, sx1, sx2, sx3, sx4, sx5, sx6, isBytes, ATy.isAgg, ATy.known, tyb, Nat.reduceAdd, Nat.reduceMul, Nat.reduceEqDiff, Nat.reduceLT, Nat.reduceLeDiff, ↓reduceIte, implies_true, decide_true, decide_false, ne_eq, Value.oneCell', Int.reduceToNat, ite_self, beq_self_eq_true, bne_self_eq_false, gt_iff_lt, Int.reduceEq, Int.reduceLT, Int.reduceLE, Int.reduceNe, List.forall_mem_cons, false_implies, forall_const, natS, *])), by (first | rfl | (simp (disch := omega) only [sx0, sx1, sx2, sx3, sx4, sx5, sx6, isBytes, ATy.isAgg, ATy.known, tyb, Nat.reduceAdd, Nat.reduceMul, Nat.reduceEqDiff, Nat.reduceLT, Nat.reduceLeDiff, ↓reduceIte, implies_true, decide_true, decide_false, ne_eq, Value.oneCell', Int.reduceToNat, ite_self, beq_self_eq_true, bne_self_eq_false, gt_iff_lt, Int.reduceEq, Int.reduceLT, Int.reduceLE, Int.reduceNe, List.forall_mem_cons, false_implies, forall_const, natS, *])), by (first | rfl | (simp (disch := omega) only [sx0, sx1, sx2, sx3, sx4, sx5, sx6, isBytes, ATy.isAgg, ATy.known, tyb, Nat.reduceAdd, Nat.reduceMul, Nat.reduceEqDiff, Nat.reduceLT, Nat.reduceLeDiff, ↓reduceIte, implies_true, decide_true, decide_false, ne_eq, Value.oneCell', Int.reduceToNat, ite_self, beq_self_eq_true, bne_self_eq_false, gt_iff_lt, Int.reduceEq, Int.reduceLT, Int.reduceLE, Int.reduceNe, List.forall_mem_cons, false_implies, forall_const, natS, *])), hb, hnx⟩
  · have hk : k = d := by omega
    have hz : ((10 ^ d : Nat) : Int) = p := by rw [hH.out, hk]
    (repeat' (first
    | refine awp_seq ?_
    | refine awp_block ?_
    | (refine awp_ret ?_; simp only [then_ret, block_ret, end_ret])
    | ((first
        | refine vplain ?_
        | refine vdraws (by kernel_rfl) ?_
        | refine vbuildS (by simp only [tyb, elemOf_s]) (by simp only [tyb, elemOf_s, List.length_cons, List.length_nil, List.all_cons, List.all_nil, Value.oneCell', Bool.and_self, Nat.reduceAdd, Nat.reduceMul, Nat.reduceLeDiff, Nat.reduceLT, true_and, and_true, and_self, Nat.lt_add_one, Nat.zero_mul, Nat.zero_le, Nat.one_mul]) ?_
        | refine vcond ?_
        | refine awp_exit ?_
        | refine awp_skip ?_
        | refine And.intro (by first | omega | assumption | exact setOk_ge (by decide +kernel) | exact setOk_late (by decide +kernel) (by (simp (disch := omega) only [sx0, sx1, sx2, sx3, sx4, sx5, sx6, isBytes, ATy.isAgg, ATy.known, tyb, Nat.reduceAdd, Nat.reduceMul, Nat.reduceEqDiff, Nat.reduceLT, Nat.reduceLeDiff, ↓reduceIte, implies_true, decide_true, decide_false, ne_eq, Value.oneCell', Int.reduceToNat, ite_self, beq_self_eq_true, bne_self_eq_false, gt_iff_lt, Int.reduceEq, Int.reduceLT, Int.reduceLE, Int.reduceNe, List.forall_mem_cons, false_implies, forall_const, natS, *]; rfl)) (by refine wkR_row ?_; repeat' (first | exact trivial | refine wkL_c (by decide +kernel) ?_)) | exact Nat.le_of_ble_eq_true (by kernel_rfl)) ?_
        | refine nqif_ways (fun h => ?_) ?_
        | ((first | refine gif_ways (fun h => ?_) (fun h => ?_) | refine cif_ways (fun h => ?_) (fun h => ?_)) <;> (try simp only [decide_eq_true_eq, decide_eq_false_iff_not, Bool.not_eq_true', Bool.not_eq_false', Bool.not_true, Bool.not_false] at h) <;> (try (exfalso; omega)))) <;> (try (simp (disch := omega) only [sx0, sx1, sx2, sx3, sx4, sx5, sx6, isBytes, ATy.isAgg, ATy.known, tyb, Nat.reduceAdd, Nat.reduceMul, Nat.reduceEqDiff, Nat.reduceLT, Nat.reduceLeDiff, ↓reduceIte, implies_true, decide_true, decide_false, ne_eq, Value.oneCell', Int.reduceToNat, ite_self, beq_self_eq_true, bne_self_eq_false, gt_iff_lt, Int.reduceEq, Int.reduceLT, Int.reduceLE, Int.reduceNe, List.forall_mem_cons, false_implies, forall_const, *])))))
    all_goals simp only [sxc, sx6, z0, p0, Nat.reduceEqDiff, ↓reduceIte, AV.ex.injEq, Value.bool.injEq, Value.int.injEq, Value.string.injEq, List.all_append, List.map_append, Tryd.f29, *]
theorem digits_con (n : Nat) (hn : n ≤ 9223372036854775807) : Con Tryd.prog Ctx 30 [.ex (.int .i64 n)] (.val (.ex (.string ⟨(Lib.decDigits n).toArray⟩))) := by
  refine con_val base Tryd.func30 rfl rfl (by kernel_rfl) (Nat.le_of_ble_eq_true rfl) ?_
  rw [init_eq]
  have hlen := dec_len n hn
  (repeat' (first
    | refine awp_seq ?_
    | refine awp_block ?_
    | (refine awp_ret ?_; simp only [then_ret, block_ret, end_ret])
    | ((first
        | refine vplain ?_
        | refine vdraws (by kernel_rfl) ?_
        | refine vbuildS (by simp only [tyb, elemOf_s]) (by simp only [tyb, elemOf_s, List.length_cons, List.length_nil, List.all_cons, List.all_nil, Value.oneCell', Bool.and_self, Nat.reduceAdd, Nat.reduceMul, Nat.reduceLeDiff, Nat.reduceLT, true_and, and_true, and_self, Nat.lt_add_one, Nat.zero_mul, Nat.zero_le, Nat.one_mul]) ?_
        | refine vcond ?_
        | refine awp_exit ?_
        | refine awp_skip ?_
        | refine And.intro (by first | omega | assumption | exact setOk_ge (by decide +kernel) | exact setOk_late (by decide +kernel) (by (simp (disch := omega) only [sx0, sx1, sx2, sx3, sx4, sx5, sx6, isBytes, ATy.isAgg, ATy.known, tyb, Nat.reduceAdd, Nat.reduceMul, Nat.reduceEqDiff, Nat.reduceLT, Nat.reduceLeDiff, ↓reduceIte, implies_true, decide_true, decide_false, ne_eq, Value.oneCell', Int.reduceToNat, ite_self, beq_self_eq_true, bne_self_eq_false, gt_iff_lt, Int.reduceEq, Int.reduceLT, Int.reduceLE, Int.reduceNe, List.forall_mem_cons, false_implies, forall_const, natS, *]; rfl)) (by refine wkR_row ?_; repeat' (first | exact trivial | refine wkL_c (by decide +kernel) ?_)) | exact Nat.le_of_ble_eq_true (by kernel_rfl)) ?_
        | refine nqif_ways (fun h => ?_) ?_
        | ((first | refine gif_ways (fun h => ?_) (fun h => ?_) | refine cif_ways (fun h => ?_) (fun h => ?_)) <;> (try simp only [decide_eq_true_eq, decide_eq_false_iff_not, Bool.not_eq_true', Bool.not_eq_false', Bool.not_true, Bool.not_false] at h) <;> (try (exfalso; omega)))) <;> (try (simp (disch := omega) only [sx0, sx1, sx2, sx3, sx4, sx5, sx6, isBytes, ATy.isAgg, ATy.known, tyb, Nat.reduceAdd, Nat.reduceMul, Nat.reduceEqDiff, Nat.reduceLT, Nat.reduceLeDiff, ↓reduceIte, implies_true, decide_true, decide_false, ne_eq, Value.oneCell', Int.reduceToNat, ite_self, beq_self_eq_true, bne_self_eq_false, gt_iff_lt, Int.reduceEq, Int.reduceLT, Int.reduceLE, Int.reduceNe, List.forall_mem_cons, false_implies, forall_const, *])))))
  refine vloop (fun q tm hp nx => ∃ (m : Nat) (s : ByteArray), q = m ∧ m ≤ n ∧ tm 0 = .ex (.int .i64 m) ∧ tm 3 = .ex (.string s) ∧ s.size ≤ 21 ∧ Hid (Lib.decDigits n = Lib.decDigits m ++ s.data.toList)) n ⟨n, ⟨#[]⟩, rfl, Nat.le_refl _, by (first | rfl | (simp (disch := omega) only [sx0, sx1, sx2, sx3, sx4, sx5, sx6, isBytes, ATy.isAgg, ATy.known, tyb, Nat.reduceAdd, Nat.reduceMul, Nat.reduceEqDiff, Nat.reduceLT, Nat.reduceLeDiff, ↓reduceIte, implies_true, decide_true, decide_false, ne_eq, Value.oneCell', Int.reduceToNat, ite_self, beq_self_eq_true, bne_self_eq_false, gt_iff_lt, Int.reduceEq, Int.reduceLT, Int.reduceLE, Int.reduceNe, List.forall_mem_cons, false_implies, forall_const, natS, *])), by (first | rfl | (simp (disch := omega) only [sx0, sx1, sx2, sx3, sx4, sx5, sx6, isBytes, ATy.isAgg, ATy.known, tyb, Nat.reduceAdd, Nat.reduceMul, Nat.reduceEqDiff, Nat.reduceLT, Nat.reduceLeDiff, ↓reduceIte, implies_true, decide_true, decide_false, ne_eq, Value.oneCell', Int.reduceToNat, ite_self, beq_self_eq_true, bne_self_eq_false, gt_iff_lt, Int.reduceEq, Int.reduceLT, Int.reduceLE, Int.reduceNe, List.forall_mem_cons, false_implies, forall_const, natS, *])), by show 0 ≤ _; omega, Lib.hid (by simp)⟩ ?_
  rintro q tm hp nx ⟨m, s, hq, hm, g0, g3, hs, hH⟩
  by_cases hlt : 9 < m
  · have d1 : ((m : Int)).tmod 10 = ((m % 10 : Nat) : Int) := by rw [Int.tmod_eq_emod_of_nonneg (by omega)]; omega
    have d2 : ((m : Int)).tdiv 10 = ((m / 10 : Nat) : Int) := by rw [Int.tdiv_eq_ediv_of_nonneg (by omega)]; omega
    have hr : m % 10 < 10 := Nat.mod_lt _ (by omega)
    have t1 : ((m % 10 : Nat) : Int).toNat = m % 10 := by omega
    have t2 : (((m % 10 : Nat) : Int) + 1).toNat = m % 10 + 1 := by omega
    have hcut := dig10' (m % 10) hr
    obtain ⟨dg, hdg⟩ : ∃ dg : ByteArray, dg = ⟨#[UInt8.ofNat (48 + m % 10)]⟩ := ⟨_, rfl⟩
    rw [← hdg] at hcut
    have hds : dg.size = 1 := by rw [hdg]; rfl
    have hnx := Lib.hid (show Lib.decDigits n = Lib.decDigits (m / 10) ++ (dg ++ s).data.toList by
      rw [hH.out, dec_big (by omega), hdg]; simp [ByteArray.data_append])
    have hss : (dg ++ s).size ≤ 21 := by
      have h1 := congrArg List.length hnx.out
      rw [List.length_append, size_toList] at h1
      omega
    have hm10 : m / 10 ≤ n := by omega
    have hsz : (⟨#[48, 49, 50, 51, 52, 53, 54, 55, 56, 57]⟩ : ByteArray).size = 10 := rfl
    clear hdg hlen
    (repeat' (first
    | refine awp_seq ?_
    | refine awp_block ?_
    | (refine awp_ret ?_; simp only [then_ret, block_ret, end_ret])
    | ((first
        | refine vplain ?_
        | refine vdraws (by kernel_rfl) ?_
        | refine vbuildS (by simp only [tyb, elemOf_s]) (by simp only [tyb, elemOf_s, List.length_cons, List.length_nil, List.all_cons, List.all_nil, Value.oneCell', Bool.and_self, Nat.reduceAdd, Nat.reduceMul, Nat.reduceLeDiff, Nat.reduceLT, true_and, and_true, and_self, Nat.lt_add_one, Nat.zero_mul, Nat.zero_le, Nat.one_mul]) ?_
        | refine vcond ?_
        | refine awp_exit ?_
        | refine awp_skip ?_
        | refine And.intro (by first | omega | assumption | exact setOk_ge (by decide +kernel) | exact setOk_late (by decide +kernel) (by (simp (disch := omega) only [sx0, sx1, sx2, sx3, sx4, sx5, sx6, isBytes, ATy.isAgg, ATy.known, tyb, Nat.reduceAdd, Nat.reduceMul, Nat.reduceEqDiff, Nat.reduceLT, Nat.reduceLeDiff, ↓reduceIte, implies_true, decide_true, decide_false, ne_eq, Value.oneCell', Int.reduceToNat, ite_self, beq_self_eq_true, bne_self_eq_false, gt_iff_lt, Int.reduceEq, Int.reduceLT, Int.reduceLE, Int.reduceNe, List.forall_mem_cons, false_implies, forall_const, natS, *]; rfl)) (by refine wkR_row ?_; repeat' (first | exact trivial | refine wkL_c (by decide +kernel) ?_)) | exact Nat.le_of_ble_eq_true (by kernel_rfl)) ?_
        | refine nqif_ways (fun h => ?_) ?_
        | ((first | refine gif_ways (fun h => ?_) (fun h => ?_) | refine cif_ways (fun h => ?_) (fun h => ?_)) <;> (try simp only [decide_eq_true_eq, decide_eq_false_iff_not, Bool.not_eq_true', Bool.not_eq_false', Bool.not_true, Bool.not_false] at h) <;> (try (exfalso; omega)))) <;> (try (simp (disch := omega) only [sx0, sx1, sx2, sx3, sx4, sx5, sx6, isBytes, ATy.isAgg, ATy.known, tyb, Nat.reduceAdd, Nat.reduceMul, Nat.reduceEqDiff, Nat.reduceLT, Nat.reduceLeDiff, ↓reduceIte, implies_true, decide_true, decide_false, ne_eq, Value.oneCell', Int.reduceToNat, ite_self, beq_self_eq_true, bne_self_eq_false, gt_iff_lt, Int.reduceEq, Int.reduceLT, Int.reduceLE, Int.reduceNe, List.forall_mem_cons, false_implies, forall_const, *])))))
    exact kround_i (m / 10) (by omega) ⟨m / 10, dg ++ s, rfl, hm10, by (first | rfl | (simp (disch := omega) only [sx0, sx1, sx2, sx3, sx4, sx5, sx6, isBytes, ATy.isAgg, ATy.known, tyb, Nat.reduceAdd, Nat.reduceMul, Nat.reduceEqDiff, Nat.reduceLT, Nat.reduceLeDiff, ↓reduceIte, implies_true, decide_true, decide_false, ne_eq, Value.oneCell', Int.reduceToNat, ite_self, beq_self_eq_true, bne_self_eq_false, gt_iff_lt, Int.reduceEq, Int.reduceLT, Int.reduceLE, Int.reduceNe, List.forall_mem_cons, false_implies, forall_const, natS, *])), by (first | rfl | (simp (disch := omega) only [sx0, sx1, sx2, sx3, sx4, sx5, sx6, isBytes, ATy.isAgg, ATy.known, tyb, Nat.reduceAdd, Nat.reduceMul, Nat.reduceEqDiff, Nat.reduceLT, Nat.reduceLeDiff, ↓reduceIte, implies_true, decide_true, decide_false, ne_eq, Value.oneCell', Int.reduceToNat, ite_self, beq_self_eq_true, bne_self_eq_false, gt_iff_lt, Int.reduceEq, Int.reduceLT, Int.reduceLE, Int.reduceNe, List.forall_mem_cons, false_implies, forall_const, natS, *])), hss, hnx⟩
  · have t2 : ((m : Int) + 1).toNat = m + 1 := by omega
    have hcut := dig10' m (by omega)
    obtain ⟨dg, hdg⟩ : ∃ dg : ByteArray, dg = ⟨#[UInt8.ofNat (48 + m)]⟩ := ⟨_, rfl⟩
    rw [← hdg] at hcut
    have hds : dg.size = 1 := by rw [hdg]; rfl
    have hz : (⟨(Lib.decDigits n).toArray⟩ : ByteArray) = dg ++ s := Eq.symm <| bytes_ext (by
      rw [hH.out, dec_small (by omega), hdg]; simp [ByteArray.data_append])
    have hsz : (⟨#[48, 49, 50, 51, 52, 53, 54, 55, 56, 57]⟩ : ByteArray).size = 10 := rfl
    clear hdg hlen
    (repeat' (first
    | refine awp_seq ?_
    | refine awp_block ?_
    | (refine awp_ret ?_; simp only [then_ret, block_ret, end_ret])
    | ((first
        | refine vplain ?_
        | refine vdraws (by kernel_rfl) ?_
        | refine vbuildS (by simp only [tyb, elemOf_s]) (by simp only [tyb, elemOf_s, List.length_cons, List.length_nil, List.all_cons, List.all_nil, Value.oneCell', Bool.and_self, Nat.reduceAdd, Nat.reduceMul, Nat.reduceLeDiff, Nat.reduceLT, true_and, and_true, and_self, Nat.lt_add_one, Nat.zero_mul, Nat.zero_le, Nat.one_mul]) ?_
        | refine vcond ?_
        | refine awp_exit ?_
        | refine awp_skip ?_
        | refine And.intro (by first | omega | assumption | exact setOk_ge (by decide +kernel) | exact setOk_late (by decide +kernel) (by (simp (disch := omega) only [sx0, sx1, sx2, sx3, sx4, sx5, sx6, isBytes, ATy.isAgg, ATy.known, tyb, Nat.reduceAdd, Nat.reduceMul, Nat.reduceEqDiff, Nat.reduceLT, Nat.reduceLeDiff, ↓reduceIte, implies_true, decide_true, decide_false, ne_eq, Value.oneCell', Int.reduceToNat, ite_self, beq_self_eq_true, bne_self_eq_false, gt_iff_lt, Int.reduceEq, Int.reduceLT, Int.reduceLE, Int.reduceNe, List.forall_mem_cons, false_implies, forall_const, natS, *]; rfl)) (by refine wkR_row ?_; repeat' (first | exact trivial | refine wkL_c (by decide +kernel) ?_)) | exact Nat.le_of_ble_eq_true (by kernel_rfl)) ?_
        | refine nqif_ways (fun h => ?_) ?_
        | ((first | refine gif_ways (fun h => ?_) (fun h => ?_) | refine cif_ways (fun h => ?_) (fun h => ?_)) <;> (try simp only [decide_eq_true_eq, decide_eq_false_iff_not, Bool.not_eq_true', Bool.not_eq_false', Bool.not_true, Bool.not_false] at h) <;> (try (exfalso; omega)))) <;> (try (simp (disch := omega) only [sx0, sx1, sx2, sx3, sx4, sx5, sx6, isBytes, ATy.isAgg, ATy.known, tyb, Nat.reduceAdd, Nat.reduceMul, Nat.reduceEqDiff, Nat.reduceLT, Nat.reduceLeDiff, ↓reduceIte, implies_true, decide_true, decide_false, ne_eq, Value.oneCell', Int.reduceToNat, ite_self, beq_self_eq_true, bne_self_eq_false, gt_iff_lt, Int.reduceEq, Int.reduceLT, Int.reduceLE, Int.reduceNe, List.forall_mem_cons, false_implies, forall_const, *])))))
    all_goals simp only [sxc, sx6, z0, p0, Nat.reduceEqDiff, ↓reduceIte, AV.ex.injEq, Value.bool.injEq, Value.int.injEq, Value.string.injEq, List.all_append, List.map_append, Tryd.f30, *]

theorem format_no {a d : Int} (h : valid3 a = false ∨ placesB d = false) : formatS a d = ⟨#[]⟩ ∧ formatE a d = 1 := by
  unfold formatS formatE
  rcases h with h | h <;> simp [h]
theorem format_ok {a : Int} {d : Nat} (h1 : valid3 a = true) (h2 : placesB d = true) : formatS a d = ⟨(formatT a d).toArray⟩ ∧ formatE a d = 0 := by
  unfold formatS formatE
  rw [h1, h2, Int.toNat_natCast]
  exact ⟨rfl, rfl⟩
def signB (a : Int) : ByteArray := if a < 0 then ⟨#[45]⟩ else ⟨#[]⟩
theorem sign_list (a : Int) : (signB a).data.toList = signL a := by unfold signB signL; split <;> rfl
theorem pad_end {n d j : Nat} {l : List UInt8} (h : l = List.replicate j 48 ++ Lib.decDigits n) (h1 : d < l.length) (h2 : j = 0 ∨ l.length ≤ d + 1) : l = padZ n d := by
  have hl := congrArg List.length h
  rw [List.length_append, List.length_replicate] at hl
  unfold padZ
  rw [h]
  congr 2
  omega
theorem format_0 {a : Int} {s sg : ByteArray} (h : s.data.toList = padZ a.natAbs 0) (hs : sg = signB a) : (⟨(formatT a 0).toArray⟩ : ByteArray) = sg ++ s := Eq.symm <| bytes_ext (by
  rw [padZ_eq, lowD, List.append_nil, Nat.pow_zero, Nat.div_one] at h
  rw [hs, formatT, if_pos rfl]
  simp [ByteArray.data_append, sign_list, h])
theorem format_d {a : Int} {d : Nat} {s sg : ByteArray} (h : s.data.toList = padZ a.natAbs d) (hs : sg = signB a) (h0 : d ≠ 0) : d < s.size ∧ (⟨(formatT a d).toArray⟩ : ByteArray) = sg ++ s.extract 0 (s.size - d) ++ ⟨#[46]⟩ ++ s.extract (s.size - d) s.size := by
  rw [padZ_eq] at h
  have hl := congrArg List.length h
  rw [List.length_append, lowD_len, size_toList] at hl
  have hne : (Lib.decDigits (a.natAbs / 10 ^ d)).length ≠ 0 := fun e => dec_ne _ (List.eq_nil_of_length_eq_zero e)
  refine ⟨by omega, Eq.symm <| bytes_ext ?_⟩
  have e1 : (s.extract 0 (s.size - d)).data.toList = Lib.decDigits (a.natAbs / 10 ^ d) := by
    rw [ext_list, List.drop_zero, h, show s.size - d = (Lib.decDigits (a.natAbs / 10 ^ d)).length by omega, List.take_left]
  have e2 : (s.extract (s.size - d) s.size).data.toList = lowD a.natAbs d := by
    rw [ext_list, List.take_of_length_le (by rw [size_toList]; exact Nat.le_refl _), h, show s.size - d = (Lib.decDigits (a.natAbs / 10 ^ d)).length by omega, List.drop_left]
  rw [formatT, if_neg h0, hs]
  simp only [ByteArray.data_append, Array.toList_append, e1, e2, sign_list]
  simp
theorem Format_neg (a : Int) (d : Nat) (h1 : valid3 a = true) (h2 : placesB d = true) (hs : a < 0) : Con Tryd.prog Ctx 15 [.ex (.int .i64 a), .ex (.int .i64 d)] (.val (.tup [.ex (.string (formatS a d)), .ex (.int .i64 (formatE a d))])) := by
  refine con_val base Tryd.func15 rfl rfl (by kernel_rfl) (Nat.le_of_ble_eq_true rfl) ?_
  rw [init_eq]
  obtain ⟨r1, r2⟩ := format_ok h1 h2
  obtain ⟨v1, v2⟩ := valid3_iff.1 h1
  obtain ⟨d1, d2⟩ := placesB_iff.1 h2
  have hd4 : d ≤ 4 := by omega
  obtain ⟨n, hn⟩ : ∃ n : Nat, a.natAbs = n := ⟨_, rfl⟩
  have hna : a = -(n : Int) := by omega
  have hsb : (⟨#[45]⟩ : ByteArray) = signB a := by unfold signB; rw [if_pos hs]
  have hsb' := Lib.hid hsb
  have hIt := Itoa_con (n : Int) (by omega) (by omega)
  rw [Lib.itoa_nonneg] at hIt
  have hlen := dec_len n (by omega)
  have hne : (Lib.decDigits n).length ≠ 0 := fun e => dec_ne _ (List.eq_nil_of_length_eq_zero e)
  obtain ⟨s0, hs0⟩ : ∃ s0 : ByteArray, ⟨(Lib.decDigits n).toArray⟩ = s0 := ⟨_, rfl⟩
  have hs0l : s0.data.toList = Lib.decDigits n := by rw [← hs0]
  have hs0z : s0.size = (Lib.decDigits n).length := by rw [← size_toList, hs0l]
  rw [hs0] at hIt
  have hsg : (⟨#[45]⟩ : ByteArray).size = 1 := rfl
  have h46 : (⟨#[46]⟩ : ByteArray).size = 1 := rfl
  have h48 : (⟨#[48]⟩ : ByteArray).size = 1 := rfl
  have hs0h := Lib.hid hs0l
  have hnh := Lib.hid hn
  clear hs0 hs0l hsb hn d1
  subst hna
  have hn0 : (0 : Int) - -(n : Int) = n := by omega
  (repeat' (first
    | refine awp_seq ?_
    | refine awp_block ?_
    | (refine awp_ret ?_; simp only [then_ret, block_ret, end_ret])
    | ((first
        | refine call_val (by first | (simp only [sxc, sx6, z0, p0, Nat.reduceEqDiff, ↓reduceIte, AV.ex.injEq, Value.bool.injEq, Value.int.injEq, Value.string.injEq, List.all_append, List.map_append]; (try rfl); done) | (simp only [sxc, sx6, z0, p0, Nat.reduceEqDiff, ↓reduceIte, AV.ex.injEq, Value.bool.injEq, Value.int.injEq, Value.string.injEq, List.all_append, List.map_append, *]; (try rfl); done)) (Valid_con _) ?_
        | refine call_val (by first | (simp only [sxc, sx6, z0, p0, Nat.reduceEqDiff, ↓reduceIte, AV.ex.injEq, Value.bool.injEq, Value.int.injEq, Value.string.injEq, List.all_append, List.map_append]; (try rfl); done) | (simp only [sxc, sx6, z0, p0, Nat.reduceEqDiff, ↓reduceIte, AV.ex.injEq, Value.bool.injEq, Value.int.injEq, Value.string.injEq, List.all_append, List.map_append, *]; (try rfl); done)) (places_con _) ?_
        | refine call_val (by first | (simp only [sxc, sx6, z0, p0, Nat.reduceEqDiff, ↓reduceIte, AV.ex.injEq, Value.bool.injEq, Value.int.injEq, Value.string.injEq, List.all_append, List.map_append]; (try rfl); done) | (simp only [sxc, sx6, z0, p0, Nat.reduceEqDiff, ↓reduceIte, AV.ex.injEq, Value.bool.injEq, Value.int.injEq, Value.string.injEq, List.all_append, List.map_append, *]; (try rfl); done)) (hIt) ?_
        | refine vplain ?_
        | refine vdraws (by kernel_rfl) ?_
        | refine vbuildS (by simp only [tyb, elemOf_s]) (by simp only [tyb, elemOf_s, List.length_cons, List.length_nil, List.all_cons, List.all_nil, Value.oneCell', Bool.and_self, Nat.reduceAdd, Nat.reduceMul, Nat.reduceLeDiff, Nat.reduceLT, true_and, and_true, and_self, Nat.lt_add_one, Nat.zero_mul, Nat.zero_le, Nat.one_mul]) ?_
        | refine vcond ?_
        | refine awp_exit ?_
        | refine awp_skip ?_
        | refine And.intro (by first | omega | assumption | exact setOk_ge (by decide +kernel) | exact setOk_late (by decide +kernel) (by (simp (disch := omega) only [sx0, sx1, sx2, sx3, sx4, sx5, sx6, isBytes, ATy.isAgg, ATy.known, tyb, Nat.reduceAdd, Nat.reduceMul, Nat.reduceEqDiff, Nat.reduceLT, Nat.reduceLeDiff, ↓reduceIte, implies_true, decide_true, decide_false, ne_eq, Value.oneCell', Int.reduceToNat, ite_self, beq_self_eq_true, bne_self_eq_false, gt_iff_lt, Int.reduceEq, Int.reduceLT, Int.reduceLE, Int.reduceNe, List.forall_mem_cons, false_implies, forall_const, natS, *]; rfl)) (by refine wkR_row ?_; repeat' (first | exact trivial | refine wkL_c (by decide +kernel) ?_)) | exact Nat.le_of_ble_eq_true (by kernel_rfl)) ?_
        | refine nqif_ways (fun h => ?_) ?_
        | ((first | refine gif_ways (fun h => ?_) (fun h => ?_) | refine cif_ways (fun h => ?_) (fun h => ?_)) <;> (try simp only [decide_eq_true_eq, decide_eq_false_iff_not, Bool.not_eq_true', Bool.not_eq_false', Bool.not_true, Bool.not_false] at h) <;> (try (exfalso; omega)))) <;> (try (simp (disch := omega) only [sx0, sx1, sx2, sx3, sx4, sx5, sx6, isBytes, ATy.isAgg, ATy.known, tyb, Nat.reduceAdd, Nat.reduceMul, Nat.reduceEqDiff, Nat.reduceLT, Nat.reduceLeDiff, ↓reduceIte, implies_true, decide_true, decide_false, ne_eq, Value.oneCell', Int.reduceToNat, ite_self, beq_self_eq_true, bne_self_eq_false, gt_iff_lt, Int.reduceEq, Int.reduceLT, Int.reduceLE, Int.reduceNe, List.forall_mem_cons, false_implies, forall_const, *])))))
  refine vloop (fun q tm hp nx => ∃ (j : Nat) (s : ByteArray), q = d + 1 - s.size ∧ tm 7 = .ex (.string s) ∧ tm 6 = .ex (.string ⟨#[45]⟩) ∧ tm 1 = .ex (.int .i64 d) ∧ s.size ≤ 40 ∧ (j = 0 ∨ s.size ≤ d + 1) ∧ Hid (s.data.toList = List.replicate j 48 ++ Lib.decDigits n)) (d + 1 - s0.size) ⟨0, s0, rfl, by (first | rfl | (simp (disch := omega) only [sx0, sx1, sx2, sx3, sx4, sx5, sx6, isBytes, ATy.isAgg, ATy.known, tyb, Nat.reduceAdd, Nat.reduceMul, Nat.reduceEqDiff, Nat.reduceLT, Nat.reduceLeDiff, ↓reduceIte, implies_true, decide_true, decide_false, ne_eq, Value.oneCell', Int.reduceToNat, ite_self, beq_self_eq_true, bne_self_eq_false, gt_iff_lt, Int.reduceEq, Int.reduceLT, Int.reduceLE, Int.reduceNe, List.forall_mem_cons, false_implies, forall_const, natS, *])), by (first | rfl | (simp (disch := omega) only [sx0, sx1, sx2, sx3, sx4, sx5, sx6, isBytes, ATy.isAgg, ATy.known, tyb, Nat.reduceAdd, Nat.reduceMul, Nat.reduceEqDiff, Nat.reduceLT, Nat.reduceLeDiff, ↓reduceIte, implies_true, decide_true, decide_false, ne_eq, Value.oneCell', Int.reduceToNat, ite_self, beq_self_eq_true, bne_self_eq_false, gt_iff_lt, Int.reduceEq, Int.reduceLT, Int.reduceLE, Int.reduceNe, List.forall_mem_cons, false_implies, forall_const, natS, *])), by (first | rfl | (simp (disch := omega) only [sx0, sx1, sx2, sx3, sx4, sx5, sx6, isBytes, ATy.isAgg, ATy.known, tyb, Nat.reduceAdd, Nat.reduceMul, Nat.reduceEqDiff, Nat.reduceLT, Nat.reduceLeDiff, ↓reduceIte, implies_true, decide_true, decide_false, ne_eq, Value.oneCell', Int.reduceToNat, ite_self, beq_self_eq_true, bne_self_eq_false, gt_iff_lt, Int.reduceEq, Int.reduceLT, Int.reduceLE, Int.reduceNe, List.forall_mem_cons, false_implies, forall_const, natS, *])), by omega, .inl rfl, Lib.hid (by rw [hs0h.out]; rfl)⟩ ?_
  rintro q tm hp nx ⟨j, s, hq, g7, g6, g1, hsz, hj, hH⟩
  by_cases hlt : s.size ≤ d
  · have hnx := Lib.hid (show ((⟨#[48]⟩ : ByteArray) ++ s).data.toList = List.replicate (j + 1) 48 ++ Lib.decDigits n by
      rw [ByteArray.data_append, Array.toList_append, hH.out, List.replicate_succ]; rfl)
    have hss : ((⟨#[48]⟩ : ByteArray) ++ s).size = s.size + 1 := by rw [ByteArray.size_append, h48]; omega
    (repeat' (first
    | refine awp_seq ?_
    | refine awp_block ?_
    | (refine awp_ret ?_; simp only [then_ret, block_ret, end_ret])
    | ((first
        | refine vplain ?_
        | refine vdraws (by kernel_rfl) ?_
        | refine vbuildS (by simp only [tyb, elemOf_s]) (by simp only [tyb, elemOf_s, List.length_cons, List.length_nil, List.all_cons, List.all_nil, Value.oneCell', Bool.and_self, Nat.reduceAdd, Nat.reduceMul, Nat.reduceLeDiff, Nat.reduceLT, true_and, and_true, and_self, Nat.lt_add_one, Nat.zero_mul, Nat.zero_le, Nat.one_mul]) ?_
        | refine vcond ?_
        | refine awp_exit ?_
        | refine awp_skip ?_
        | refine And.intro (by first | omega | assumption | exact setOk_ge (by decide +kernel) | exact setOk_late (by decide +kernel) (by (simp (disch := omega) only [sx0, sx1, sx2, sx3, sx4, sx5, sx6, isBytes, ATy.isAgg, ATy.known, tyb, Nat.reduceAdd, Nat.reduceMul, Nat.reduceEqDiff, Nat.reduceLT, Nat.reduceLeDiff, ↓reduceIte, implies_true, decide_true, decide_false, ne_eq, Value.oneCell', Int.reduceToNat, ite_self, beq_self_eq_true, bne_self_eq_false, gt_iff_lt, Int.reduceEq, Int.reduceLT, Int.reduceLE, Int.reduceNe, List.forall_mem_cons, false_implies, forall_const, natS, *]; rfl)) (by refine wkR_row ?_; repeat' (first | exact trivial | refine wkL_c (by decide +kernel) ?_)) | exact Nat.le_of_ble_eq_true (by kernel_rfl)) ?_
        | refine nqif_ways (fun h => ?_) ?_
        | ((first | refine gif_ways (fun h => ?_) (fun h => ?_) | refine cif_ways (fun h => ?_) (fun h => ?_)) <;> (try simp only [decide_eq_true_eq, decide_eq_false_iff_not, Bool.not_eq_true', Bool.not_eq_false', Bool.not_true, Bool.not_false] at h) <;> (try (exfalso; omega)))) <;> (try (simp (disch := omega) only [sx0, sx1, sx2, sx3, sx4, sx5, sx6, isBytes, ATy.isAgg, ATy.known, tyb, Nat.reduceAdd, Nat.reduceMul, Nat.reduceEqDiff, Nat.reduceLT, Nat.reduceLeDiff, ↓reduceIte, implies_true, decide_true, decide_false, ne_eq, Value.oneCell', Int.reduceToNat, ite_self, beq_self_eq_true, bne_self_eq_false, gt_iff_lt, Int.reduceEq, Int.reduceLT, Int.reduceLE, Int.reduceNe, List.forall_mem_cons, false_implies, forall_const, *])))))
    exact kround_i (d + 1 - ((⟨#[48]⟩ : ByteArray) ++ s).size) (by omega) ⟨j + 1, _, rfl, by (first | rfl | (simp (disch := omega) only [sx0, sx1, sx2, sx3, sx4, sx5, sx6, isBytes, ATy.isAgg, ATy.known, tyb, Nat.reduceAdd, Nat.reduceMul, Nat.reduceEqDiff, Nat.reduceLT, Nat.reduceLeDiff, ↓reduceIte, implies_true, decide_true, decide_false, ne_eq, Value.oneCell', Int.reduceToNat, ite_self, beq_self_eq_true, bne_self_eq_false, gt_iff_lt, Int.reduceEq, Int.reduceLT, Int.reduceLE, Int.reduceNe, List.forall_mem_cons, false_implies, forall_const, natS, *])), by (first | rfl | (simp (disch := omega) only [sx0, sx1, sx2, sx3, sx4, sx5, sx6, isBytes, ATy.isAgg, ATy.known, tyb, Nat.reduceAdd, Nat.reduceMul, Nat.reduceEqDiff, Nat.reduceLT, Nat.reduceLeDiff, ↓reduceIte, implies_true, decide_true, decide_false, ne_eq, Value.oneCell', Int.reduceToNat, ite_self, beq_self_eq_true, bne_self_eq_false, gt_iff_lt, Int.reduceEq, Int.reduceLT, Int.reduceLE, Int.reduceNe, List.forall_mem_cons, false_implies, forall_const, natS, *])), by (first | rfl | (simp (disch := omega) only [sx0, sx1, sx2, sx3, sx4, sx5, sx6, isBytes, ATy.isAgg, ATy.known, tyb, Nat.reduceAdd, Nat.reduceMul, Nat.reduceEqDiff, Nat.reduceLT, Nat.reduceLeDiff, ↓reduceIte, implies_true, decide_true, decide_false, ne_eq, Value.oneCell', Int.reduceToNat, ite_self, beq_self_eq_true, bne_self_eq_false, gt_iff_lt, Int.reduceEq, Int.reduceLT, Int.reduceLE, Int.reduceNe, List.forall_mem_cons, false_implies, forall_const, natS, *])), by omega, .inr (by omega), hnx⟩
  · have hpd := Lib.hid (pad_end hH.out (show d < s.data.toList.length by rw [size_toList]; omega) (by rw [size_toList]; exact hj))
    by_cases h0 : d = 0
    · have hd0 : (d : Int) = 0 := by omega
      have hz := format_0 (by rw [hnh.out, ← h0]; exact hpd.out) hsb'.out
      rw [← h0] at hz
      rw [hd0] at r1 r2
      clear h0
      (repeat' (first
    | refine awp_seq ?_
    | refine awp_block ?_
    | (refine awp_ret ?_; simp only [then_ret, block_ret, end_ret])
    | ((first
        | refine vplain ?_
        | refine vdraws (by kernel_rfl) ?_
        | refine vbuildS (by simp only [tyb, elemOf_s]) (by simp only [tyb, elemOf_s, List.length_cons, List.length_nil, List.all_cons, List.all_nil, Value.oneCell', Bool.and_self, Nat.reduceAdd, Nat.reduceMul, Nat.reduceLeDiff, Nat.reduceLT, true_and, and_true, and_self, Nat.lt_add_one, Nat.zero_mul, Nat.zero_le, Nat.one_mul]) ?_
        | refine vcond ?_
        | refine awp_exit ?_
        | refine awp_skip ?_
        | refine And.intro (by first | omega | assumption | exact setOk_ge (by decide +kernel) | exact setOk_late (by decide +kernel) (by (simp (disch := omega) only [sx0, sx1, sx2, sx3, sx4, sx5, sx6, isBytes, ATy.isAgg, ATy.known, tyb, Nat.reduceAdd, Nat.reduceMul, Nat.reduceEqDiff, Nat.reduceLT, Nat.reduceLeDiff, ↓reduceIte, implies_true, decide_true, decide_false, ne_eq, Value.oneCell', Int.reduceToNat, ite_self, beq_self_eq_true, bne_self_eq_false, gt_iff_lt, Int.reduceEq, Int.reduceLT, Int.reduceLE, Int.reduceNe, List.forall_mem_cons, false_implies, forall_const, natS, *]; rfl)) (by refine wkR_row ?_; repeat' (first | exact trivial | refine wkL_c (by decide +kernel) ?_)) | exact Nat.le_of_ble_eq_true (by kernel_rfl)) ?_
        | refine nqif_ways (fun h => ?_) ?_
        | ((first | refine gif_ways (fun h => ?_) (fun h => ?_) | refine cif_ways (fun h => ?_) (fun h => ?_)) <;> (try simp only [decide_eq_true_eq, decide_eq_false_iff_not, Bool.not_eq_true', Bool.not_eq_false', Bool.not_true, Bool.not_false] at h) <;> (try (exfalso; omega)))) <;> (try (simp (disch := omega) only [sx0, sx1, sx2, sx3, sx4, sx5, sx6, isBytes, ATy.isAgg, ATy.known, tyb, Nat.reduceAdd, Nat.reduceMul, Nat.reduceEqDiff, Nat.reduceLT, Nat.reduceLeDiff, ↓reduceIte, implies_true, decide_true, decide_false, ne_eq, Value.oneCell', Int.reduceToNat, ite_self, beq_self_eq_true, bne_self_eq_false, gt_iff_lt, Int.reduceEq, Int.reduceLT, Int.reduceLE, Int.reduceNe, List.forall_mem_cons, false_implies, forall_const, *])))))
      all_goals simp only [sxc, sx6, z0, p0, Nat.reduceEqDiff, ↓reduceIte, AV.ex.injEq, Value.bool.injEq, Value.int.injEq, Value.string.injEq, List.all_append, List.map_append, Tryd.f15, *]
    · obtain ⟨f1, hz⟩ := format_d (by rw [hnh.out]; exact hpd.out) hsb'.out h0
      have t1 : ((s.size : Int) - (d : Int)).toNat = s.size - d := by omega
      have x1 : ((⟨#[45]⟩ : ByteArray) ++ s.extract 0 (s.size - d)).size ≤ 100 := by rw [ByteArray.size_append, ByteArray.size_extract]; omega
      have x2 : (s.extract 0 (s.size - d)).size ≤ 100 := by rw [ByteArray.size_extract]; omega
      have x3 : (s.extract (s.size - d) s.size).size ≤ 100 := by rw [ByteArray.size_extract]; omega
      have x4 : ((⟨#[45]⟩ : ByteArray) ++ s.extract 0 (s.size - d) ++ ⟨#[46]⟩).size ≤ 200 := by rw [ByteArray.size_append]; omega
      (repeat' (first
    | refine awp_seq ?_
    | refine awp_block ?_
    | (refine awp_ret ?_; simp only [then_ret, block_ret, end_ret])
    | ((first
        | refine vplain ?_
        | refine vdraws (by kernel_rfl) ?_
        | refine vbuildS (by simp only [tyb, elemOf_s]) (by simp only [tyb, elemOf_s, List.length_cons, List.length_nil, List.all_cons, List.all_nil, Value.oneCell', Bool.and_self, Nat.reduceAdd, Nat.reduceMul, Nat.reduceLeDiff, Nat.reduceLT, true_and, and_true, and_self, Nat.lt_add_one, Nat.zero_mul, Nat.zero_le, Nat.one_mul]) ?_
        | refine vcond ?_
        | refine awp_exit ?_
        | refine awp_skip ?_
        | refine And.intro (by first | omega | assumption | exact setOk_ge (by decide +kernel) | exact setOk_late (by decide +kernel) (by (simp (disch := omega) only [sx0, sx1, sx2, sx3, sx4, sx5, sx6, isBytes, ATy.isAgg, ATy.known, tyb, Nat.reduceAdd, Nat.reduceMul, Nat.reduceEqDiff, Nat.reduceLT, Nat.reduceLeDiff, ↓reduceIte, implies_true, decide_true, decide_false, ne_eq, Value.oneCell', Int.reduceToNat, ite_self, beq_self_eq_true, bne_self_eq_false, gt_iff_lt, Int.reduceEq, Int.reduceLT, Int.reduceLE, Int.reduceNe, List.forall_mem_cons, false_implies, forall_const, natS, *]; rfl)) (by refine wkR_row ?_; repeat' (first | exact trivial | refine wkL_c (by decide +kernel) ?_)) | exact Nat.le_of_ble_eq_true (by kernel_rfl)) ?_
        | refine nqif_ways (fun h => ?_) ?_
        | ((first | refine gif_ways (fun h => ?_) (fun h => ?_) | refine cif_ways (fun h => ?_) (fun h => ?_)) <;> (try simp only [decide_eq_true_eq, decide_eq_false_iff_not, Bool.not_eq_true', Bool.not_eq_false', Bool.not_true, Bool.not_false] at h) <;> (try (exfalso; omega)))) <;> (try (simp (disch := omega) only [sx0, sx1, sx2, sx3, sx4, sx5, sx6, isBytes, ATy.isAgg, ATy.known, tyb, Nat.reduceAdd, Nat.reduceMul, Nat.reduceEqDiff, Nat.reduceLT, Nat.reduceLeDiff, ↓reduceIte, implies_true, decide_true, decide_false, ne_eq, Value.oneCell', Int.reduceToNat, ite_self, beq_self_eq_true, bne_self_eq_false, gt_iff_lt, Int.reduceEq, Int.reduceLT, Int.reduceLE, Int.reduceNe, List.forall_mem_cons, false_implies, forall_const, *])))))
      all_goals simp only [sxc, sx6, z0, p0, Nat.reduceEqDiff, ↓reduceIte, AV.ex.injEq, Value.bool.injEq, Value.int.injEq, Value.string.injEq, List.all_append, List.map_append, Tryd.f15, *]
theorem Format_pos (a : Int) (d : Nat) (h1 : valid3 a = true) (h2 : placesB d = true) (hs : ¬ a < 0) : Con Tryd.prog Ctx 15 [.ex (.int .i64 a), .ex (.int .i64 d)] (.val (.tup [.ex (.string (formatS a d)), .ex (.int .i64 (formatE a d))])) := by
  refine con_val base Tryd.func15 rfl rfl (by kernel_rfl) (Nat.le_of_ble_eq_true rfl) ?_
  rw [init_eq]
  obtain ⟨r1, r2⟩ := format_ok h1 h2
  obtain ⟨v1, v2⟩ := valid3_iff.1 h1
  obtain ⟨d1, d2⟩ := placesB_iff.1 h2
  have hd4 : d ≤ 4 := by omega
  obtain ⟨n, hn⟩ : ∃ n : Nat, a.natAbs = n := ⟨_, rfl⟩
  have hna : a = (n : Int) := by omega
  have hsb : (⟨#[]⟩ : ByteArray) = signB a := by unfold signB; rw [if_neg hs]
  have hsb' := Lib.hid hsb
  have hIt := Itoa_con (n : Int) (by omega) (by omega)
  rw [Lib.itoa_nonneg] at hIt
  have hlen := dec_len n (by omega)
  have hne : (Lib.decDigits n).length ≠ 0 := fun e => dec_ne _ (List.eq_nil_of_length_eq_zero e)
  obtain ⟨s0, hs0⟩ : ∃ s0 : ByteArray, ⟨(Lib.decDigits n).toArray⟩ = s0 := ⟨_, rfl⟩
  have hs0l : s0.data.toList = Lib.decDigits n := by rw [← hs0]
  have hs0z : s0.size = (Lib.decDigits n).length := by rw [← size_toList, hs0l]
  rw [hs0] at hIt
  have hsg : (⟨#[]⟩ : ByteArray).size = 0 := rfl
  have h46 : (⟨#[46]⟩ : ByteArray).size = 1 := rfl
  have h48 : (⟨#[48]⟩ : ByteArray).size = 1 := rfl
  have hs0h := Lib.hid hs0l
  have hnh := Lib.hid hn
  clear hs0 hs0l hsb hn d1
  subst hna
  have hn0 : (0 : Int) - -(n : Int) = n := by omega
  (repeat' (first
    | refine awp_seq ?_
    | refine awp_block ?_
    | (refine awp_ret ?_; simp only [then_ret, block_ret, end_ret])
    | ((first
        | refine call_val (by first | (simp only [sxc, sx6, z0, p0, Nat.reduceEqDiff, ↓reduceIte, AV.ex.injEq, Value.bool.injEq, Value.int.injEq, Value.string.injEq, List.all_append, List.map_append]; (try rfl); done) | (simp only [sxc, sx6, z0, p0, Nat.reduceEqDiff, ↓reduceIte, AV.ex.injEq, Value.bool.injEq, Value.int.injEq, Value.string.injEq, List.all_append, List.map_append, *]; (try rfl); done)) (Valid_con _) ?_
        | refine call_val (by first | (simp only [sxc, sx6, z0, p0, Nat.reduceEqDiff, ↓reduceIte, AV.ex.injEq, Value.bool.injEq, Value.int.injEq, Value.string.injEq, List.all_append, List.map_append]; (try rfl); done) | (simp only [sxc, sx6, z0, p0, Nat.reduceEqDiff, ↓reduceIte, AV.ex.injEq, Value.bool.injEq, Value.int.injEq, Value.string.injEq, List.all_append, List.map_append, *]; (try rfl); done)) (places_con _) ?_
        | refine call_val (by first | (simp only [sxc, sx6, z0, p0, Nat.reduceEqDiff, ↓reduceIte, AV.ex.injEq, Value.bool.injEq, Value.int.injEq, Value.string.injEq, List.all_append, List.map_append]; (try rfl); done) | (simp only [sxc, sx6, z0, p0, Nat.reduceEqDiff, ↓reduceIte, AV.ex.injEq, Value.bool.injEq, Value.int.injEq, Value.string.injEq, List.all_append, List.map_append, *]; (try rfl); done)) (hIt) ?_
        | refine vplain ?_
        | refine vdraws (by kernel_rfl) ?_
        | refine vbuildS (by simp only [tyb, elemOf_s]) (by simp only [tyb, elemOf_s, List.length_cons, List.length_nil, List.all_cons, List.all_nil, Value.oneCell', Bool.and_self, Nat.reduceAdd, Nat.reduceMul, Nat.reduceLeDiff, Nat.reduceLT, true_and, and_true, and_self, Nat.lt_add_one, Nat.zero_mul, Nat.zero_le, Nat.one_mul]) ?_
        | refine vcond ?_
        | refine awp_exit ?_
        | refine awp_skip ?_
        | refine And.intro (by first | omega | assumption | exact setOk_ge (by decide +kernel) | exact setOk_late (by decide +kernel) (by (simp (disch := omega) only [sx0, sx1, sx2, sx3, sx4, sx5, sx6, isBytes, ATy.isAgg, ATy.known, tyb, Nat.reduceAdd, Nat.reduceMul, Nat.reduceEqDiff, Nat.reduceLT, Nat.reduceLeDiff, ↓reduceIte, implies_true, decide_true, decide_false, ne_eq, Value.oneCell', Int.reduceToNat, ite_self, beq_self_eq_true, bne_self_eq_false, gt_iff_lt, Int.reduceEq, Int.reduceLT, Int.reduceLE, Int.reduceNe, List.forall_mem_cons, false_implies, forall_const, natS, *]; rfl)) (by refine wkR_row ?_; repeat' (first | exact trivial | refine wkL_c (by decide +kernel) ?_)) | exact Nat.le_of_ble_eq_true (by kernel_rfl)) ?_
        | refine nqif_ways (fun h => ?_) ?_
        | ((first | refine gif_ways (fun h => ?_) (fun h => ?_) | refine cif_ways (fun h => ?_) (fun h => ?_)) <;> (try simp only [decide_eq_true_eq, decide_eq_false_iff_not, Bool.not_eq_true', Bool.not_eq_false', Bool.not_true, Bool.not_false] at h) <;> (try (exfalso; omega)))) <;> (try (simp (disch := omega) only [sx0, sx1, sx2, sx3, sx4, sx5, sx6, isBytes, ATy.isAgg, ATy.known, tyb, Nat.reduceAdd, Nat.reduceMul, Nat.reduceEqDiff, Nat.reduceLT, Nat.reduceLeDiff, ↓reduceIte, implies_true, decide_true, decide_false, ne_eq, Value.oneCell', Int.reduceToNat, ite_self, beq_self_eq_true, bne_self_eq_false, gt_iff_lt, Int.reduceEq, Int.reduceLT, Int.reduceLE, Int.reduceNe, List.forall_mem_cons, false_implies, forall_const, *])))))
  refine vloop (fun q tm hp nx => ∃ (j : Nat) (s : ByteArray), q = d + 1 - s.size ∧ tm 7 = .ex (.string s) ∧ tm 6 = .ex (.string ⟨#[]⟩) ∧ tm 1 = .ex (.int .i64 d) ∧ s.size ≤ 40 ∧ (j = 0 ∨ s.size ≤ d + 1) ∧ Hid (s.data.toList = List.replicate j 48 ++ Lib.decDigits n)) (d + 1 - s0.size) ⟨0, s0, rfl, by (first | rfl | (simp (disch := omega) only [sx0, sx1, sx2, sx3, sx4, sx5, sx6, isBytes, ATy.isAgg, ATy.known, tyb, Nat.reduceAdd, Nat.reduceMul, Nat.reduceEqDiff, Nat.reduceLT, Nat.reduceLeDiff, ↓reduceIte, implies_true, decide_true, decide_false, ne_eq, Value.oneCell', Int.reduceToNat, ite_self, beq_self_eq_true, bne_self_eq_false, gt_iff_lt, Int.reduceEq, Int.reduceLT, Int.reduceLE, Int.reduceNe, List.forall_mem_cons, false_implies, forall_const, natS, *])), by (first | rfl | (simp (disch := omega) only [sx0, sx1, sx2, sx3, sx4, sx5, sx6, isBytes, ATy.isAgg, ATy.known, tyb, Nat.reduceAdd, Nat.reduceMul, Nat.reduceEqDiff, Nat.reduceLT, Nat.reduceLeDiff, ↓reduceIte, implies_true, decide_true, decide_false, ne_eq, Value.oneCell', Int.reduceToNat, ite_self, beq_self_eq_true, bne_self_eq_false, gt_iff_lt, Int.reduceEq, Int.reduceLT, Int.reduceLE, Int.reduceNe, List.forall_mem_cons, false_implies, forall_const, natS, *])), by (first | rfl | (simp (disch := omega) only [sx0, sx1, sx2, sx3, sx4, sx5, sx6, isBytes, ATy.isAgg, ATy.known, tyb, Nat.reduceAdd, Nat.reduceMul, Nat.reduceEqDiff, Nat.reduceLT, Nat.reduceLeDiff, ↓reduceIte, implies_true, decide_true, decide_false, ne_eq, Value.oneCell', Int.reduceToNat, ite_self, beq_self_eq_true, bne_self_eq_false, gt_iff_lt, Int.reduceEq, Int.reduceLT, Int.reduceLE, Int.reduceNe, List.forall_mem_cons, false_implies, forall_const, natS, *])), by omega, .inl rfl, Lib.hid (by rw [hs0h.out]; rfl)⟩ ?_
  rintro q tm hp nx ⟨j, s, hq, g7, g6, g1, hsz, hj, hH⟩
  by_cases hlt : s.size ≤ d
  · have hnx := Lib.hid (show ((⟨#[48]⟩ : ByteArray) ++ s).data.toList = List.replicate (j + 1) 48 ++ Lib.decDigits n by
      rw [ByteArray.data_append, Array.toList_append, hH.out, List.replicate_succ]; rfl)
    have hss : ((⟨#[48]⟩ : ByteArray) ++ s).size = s.size + 1 := by rw [ByteArray.size_append, h48]; omega
    (repeat' (first
    | refine awp_seq ?_
    | refine awp_block ?_
    | (refine awp_ret ?_; simp only [then_ret, block_ret, end_ret])
    | ((first
        | refine vplain ?_
        | refine vdraws (by kernel_rfl) ?_
        | refine vbuildS (by simp only [tyb, elemOf_s]) (by simp only [tyb, elemOf_s, List.length_cons, List.length_nil, List.all_cons, List.all_nil, Value.oneCell', Bool.and_self, Nat.reduceAdd, Nat.reduceMul, Nat.reduceLeDiff, Nat.reduceLT, true_and, and_true, and_self, Nat.lt_add_one, Nat.zero_mul, Nat.zero_le, Nat.one_mul]) ?_
        | refine vcond ?_
        | refine awp_exit ?_
        | refine awp_skip ?_
        | refine And.intro (by first | omega | assumption | exact setOk_ge (by decide +kernel) | exact setOk_late (by decide +kernel) (by (simp (disch := omega) only [sx0, sx1, sx2, sx3, sx4, sx5, sx6, isBytes, ATy.isAgg, ATy.known, tyb, Nat.reduceAdd, Nat.reduceMul, Nat.reduceEqDiff, Nat.reduceLT, Nat.reduceLeDiff, ↓reduceIte, implies_true, decide_true, decide_false, ne_eq, Value.oneCell', Int.reduceToNat, ite_self, beq_self_eq_true, bne_self_eq_false, gt_iff_lt, Int.reduceEq, Int.reduceLT, Int.reduceLE, Int.reduceNe, List.forall_mem_cons, false_implies, forall_const, natS, *]; rfl)) (by refine wkR_row ?_; repeat' (first | exact trivial | refine wkL_c (by decide +kernel) ?_)) | exact Nat.le_of_ble_eq_true (by kernel_rfl)) ?_
        | refine nqif_ways (fun h => ?_) ?_
        | ((first | refine gif_ways (fun h => ?_) (fun h => ?_) | refine cif_ways (fun h => ?_) (fun h => ?_)) <;> (try simp only [decide_eq_true_eq, decide_eq_false_iff_not, Bool.not_eq_true', Bool.not_eq_false', Bool.not_true, Bool.not_false] at h) <;> (try (exfalso; omega)))) <;> (try (simp (disch := omega) only [sx0, sx1, sx2, sx3, sx4, sx5, sx6, isBytes, ATy.isAgg, ATy.known, tyb, Nat.reduceAdd, Nat.reduceMul, Nat.reduceEqDiff, Nat.reduceLT, Nat.reduceLeDiff, ↓reduceIte, implies_true, decide_true, decide_false, ne_eq, Value.oneCell', Int.reduceToNat, ite_self, beq_self_eq_true, bne_self_eq_false, gt_iff_lt, Int.reduceEq, Int.reduceLT, Int.reduceLE, Int.reduceNe, List.forall_mem_cons, false_implies, forall_const, *])))))
    exact kround_i (d + 1 - ((⟨#[48]⟩ : ByteArray) ++ s).size) (by omega) ⟨j + 1, _, rfl, by (first | rfl | (simp (disch := omega) only [sx0, sx1, sx2, sx3, sx4, sx5, sx6, isBytes, ATy.isAgg, ATy.known, tyb, Nat.reduceAdd, Nat.reduceMul, Nat.reduceEqDiff, Nat.reduceLT, Nat.reduceLeDiff, ↓reduceIte, implies_true, decide_true, decide_false, ne_eq, Value.oneCell', Int.reduceToNat, ite_self, beq_self_eq_true, bne_self_eq_false, gt_iff_lt, Int.reduceEq, Int.reduceLT, Int.reduceLE, Int.reduceNe, List.forall_mem_cons, false_implies, forall_const, natS, *])), by (first | rfl | (simp (disch := omega) only [sx0, sx1, sx2, sx3, sx4, sx5, sx6, isBytes, ATy.isAgg, ATy.known, tyb, Nat.reduceAdd, Nat.reduceMul, Nat.reduceEqDiff, Nat.reduceLT, Nat.reduceLeDiff, ↓reduceIte, implies_true, decide_true, decide_false, ne_eq, Value.oneCell', Int.reduceToNat, ite_self, beq_self_eq_true, bne_self_eq_false, gt_iff_lt, Int.reduceEq, Int.reduceLT, Int.reduceLE, Int.reduceNe, List.forall_mem_cons, false_implies, forall_const, natS, *])), by (first | rfl | (simp (disch := omega) only [sx0, sx1, sx2, sx3, sx4, sx5, sx6, isBytes, ATy.isAgg, ATy.known, tyb, Nat.reduceAdd, Nat.reduceMul, Nat.reduceEqDiff, Nat.reduceLT, Nat.reduceLeDiff, ↓reduceIte, implies_true, decide_true, decide_false, ne_eq, Value.oneCell', Int.reduceToNat, ite_self, beq_self_eq_true, bne_self_eq_false, gt_iff_lt, Int.reduceEq, Int.reduceLT, Int.reduceLE, Int.reduceNe, List.forall_mem_cons, false_implies, forall_const, natS, *])), by omega, .inr (by omega), hnx⟩
  · have hpd := Lib.hid (pad_end hH.out (show d < s.data.toList.length by rw [size_toList]; omega) (by rw [size_toList]; exact hj))
    by_cases h0 : d = 0
    · have hd0 : (d : Int) = 0 := by omega
      have hz := format_0 (by rw [hnh.out, ← h0]; exact hpd.out) hsb'.out
      rw [← h0] at hz
      rw [hd0] at r1 r2
      clear h0
      (repeat' (first
    | refine awp_seq ?_
    | refine awp_block ?_
    | (refine awp_ret ?_; simp only [then_ret, block_ret, end_ret])
    | ((first
        | refine vplain ?_
        | refine vdraws (by kernel_rfl) ?_
        | refine vbuildS (by simp only [tyb, elemOf_s]) (by simp only [tyb, elemOf_s, List.length_cons, List.length_nil, List.all_cons, List.all_nil, Value.oneCell', Bool.and_self, Nat.reduceAdd, Nat.reduceMul, Nat.reduceLeDiff, Nat.reduceLT, true_and, and_true, and_self, Nat.lt_add_one, Nat.zero_mul, Nat.zero_le, Nat.one_mul]) ?_
        | refine vcond ?_
        | refine awp_exit ?_
        | refine awp_skip ?_
        | refine And.intro (by first | omega | assumption | exact setOk_ge (by decide +kernel) | exact setOk_late (by decide +kernel) (by (simp (disch := omega) only [sx0, sx1, sx2, sx3, sx4, sx5, sx6, isBytes, ATy.isAgg, ATy.known, tyb, Nat.reduceAdd, Nat.reduceMul, Nat.reduceEqDiff, Nat.reduceLT, Nat.reduceLeDiff, ↓reduceIte, implies_true, decide_true, decide_false, ne_eq, Value.oneCell', Int.reduceToNat, ite_self, beq_self_eq_true, bne_self_eq_false, gt_iff_lt, Int.reduceEq, Int.reduceLT, Int.reduceLE, Int.reduceNe, List.forall_mem_cons, false_implies, forall_const, natS, *]; rfl)) (by refine wkR_row ?_; repeat' (first | exact trivial | refine wkL_c (by decide +kernel) ?_)) | exact Nat.le_of_ble_eq_true (by kernel_rfl)) ?_
        | refine nqif_ways (fun h => ?_) ?_
        | ((first | refine gif_ways (fun h => ?_) (fun h => ?_) | refine cif_ways (fun h => ?_) (fun h => ?_)) <;> (try simp only [decide_eq_true_eq, decide_eq_false_iff_not, Bool.not_eq_true', Bool.not_eq_false', Bool.not_true, Bool.not_false] at h) <;> (try (exfalso; omega)))) <;> (try (simp (disch := omega) only [sx0, sx1, sx2, sx3, sx4, sx5, sx6, isBytes, ATy.isAgg, ATy.known, tyb, Nat.reduceAdd, Nat.reduceMul, Nat.reduceEqDiff, Nat.reduceLT, Nat.reduceLeDiff, ↓reduceIte, implies_true, decide_true, decide_false, ne_eq, Value.oneCell', Int.reduceToNat, ite_self, beq_self_eq_true, bne_self_eq_false, gt_iff_lt, Int.reduceEq, Int.reduceLT, Int.reduceLE, Int.reduceNe, List.forall_mem_cons, false_implies, forall_const, *])))))
      all_goals simp only [sxc, sx6, z0, p0, Nat.reduceEqDiff, ↓reduceIte, AV.ex.injEq, Value.bool.injEq, Value.int.injEq, Value.string.injEq, List.all_append, List.map_append, Tryd.f15, *]
    · obtain ⟨f1, hz⟩ := format_d (by rw [hnh.out]; exact hpd.out) hsb'.out h0
      have t1 : ((s.size : Int) - (d : Int)).toNat = s.size - d := by omega
      have x1 : ((⟨#[]⟩ : ByteArray) ++ s.extract 0 (s.size - d)).size ≤ 100 := by rw [ByteArray.size_append, ByteArray.size_extract]; omega
      have x2 : (s.extract 0 (s.size - d)).size ≤ 100 := by rw [ByteArray.size_extract]; omega
      have x3 : (s.extract (s.size - d) s.size).size ≤ 100 := by rw [ByteArray.size_extract]; omega
      have x4 : ((⟨#[]⟩ : ByteArray) ++ s.extract 0 (s.size - d) ++ ⟨#[46]⟩).size ≤ 200 := by rw [ByteArray.size_append]; omega
      (repeat' (first
    | refine awp_seq ?_
    | refine awp_block ?_
    | (refine awp_ret ?_; simp only [then_ret, block_ret, end_ret])
    | ((first
        | refine vplain ?_
        | refine vdraws (by kernel_rfl) ?_
        | refine vbuildS (by simp only [tyb, elemOf_s]) (by simp only [tyb, elemOf_s, List.length_cons, List.length_nil, List.all_cons, List.all_nil, Value.oneCell', Bool.and_self, Nat.reduceAdd, Nat.reduceMul, Nat.reduceLeDiff, Nat.reduceLT, true_and, and_true, and_self, Nat.lt_add_one, Nat.zero_mul, Nat.zero_le, Nat.one_mul]) ?_
        | refine vcond ?_
        | refine awp_exit ?_
        | refine awp_skip ?_
        | refine And.intro (by first | omega | assumption | exact setOk_ge (by decide +kernel) | exact setOk_late (by decide +kernel) (by (simp (disch := omega) only [sx0, sx1, sx2, sx3, sx4, sx5, sx6, isBytes, ATy.isAgg, ATy.known, tyb, Nat.reduceAdd, Nat.reduceMul, Nat.reduceEqDiff, Nat.reduceLT, Nat.reduceLeDiff, ↓reduceIte, implies_true, decide_true, decide_false, ne_eq, Value.oneCell', Int.reduceToNat, ite_self, beq_self_eq_true, bne_self_eq_false, gt_iff_lt, Int.reduceEq, Int.reduceLT, Int.reduceLE, Int.reduceNe, List.forall_mem_cons, false_implies, forall_const, natS, *]; rfl)) (by refine wkR_row ?_; repeat' (first | exact trivial | refine wkL_c (by decide +kernel) ?_)) | exact Nat.le_of_ble_eq_true (by kernel_rfl)) ?_
        | refine nqif_ways (fun h => ?_) ?_
        | ((first | refine gif_ways (fun h => ?_) (fun h => ?_) | refine cif_ways (fun h => ?_) (fun h => ?_)) <;> (try simp only [decide_eq_true_eq, decide_eq_false_iff_not, Bool.not_eq_true', Bool.not_eq_false', Bool.not_true, Bool.not_false] at h) <;> (try (exfalso; omega)))) <;> (try (simp (disch := omega) only [sx0, sx1, sx2, sx3, sx4, sx5, sx6, isBytes, ATy.isAgg, ATy.known, tyb, Nat.reduceAdd, Nat.reduceMul, Nat.reduceEqDiff, Nat.reduceLT, Nat.reduceLeDiff, ↓reduceIte, implies_true, decide_true, decide_false, ne_eq, Value.oneCell', Int.reduceToNat, ite_self, beq_self_eq_true, bne_self_eq_false, gt_iff_lt, Int.reduceEq, Int.reduceLT, Int.reduceLE, Int.reduceNe, List.forall_mem_cons, false_implies, forall_const, *])))))
      all_goals simp only [sxc, sx6, z0, p0, Nat.reduceEqDiff, ↓reduceIte, AV.ex.injEq, Value.bool.injEq, Value.int.injEq, Value.string.injEq, List.all_append, List.map_append, Tryd.f15, *]
theorem Format_no (a d : Int) (h : valid3 a = false ∨ placesB d = false) : Con Tryd.prog Ctx 15 [.ex (.int .i64 a), .ex (.int .i64 d)] (.val (.tup [.ex (.string (formatS a d)), .ex (.int .i64 (formatE a d))])) := by
  refine con_val base Tryd.func15 rfl rfl (by kernel_rfl) (Nat.le_of_ble_eq_true rfl) ?_
  rw [init_eq]
  obtain ⟨r1, r2⟩ := format_no h
  rcases h with h | h
  · (repeat' (first
    | refine awp_seq ?_
    | refine awp_block ?_
    | (refine awp_ret ?_; simp only [then_ret, block_ret, end_ret])
    | ((first
        | refine call_val (by first | (simp only [sxc, sx6, z0, p0, Nat.reduceEqDiff, ↓reduceIte, AV.ex.injEq, Value.bool.injEq, Value.int.injEq, Value.string.injEq, List.all_append, List.map_append]; (try rfl); done) | (simp only [sxc, sx6, z0, p0, Nat.reduceEqDiff, ↓reduceIte, AV.ex.injEq, Value.bool.injEq, Value.int.injEq, Value.string.injEq, List.all_append, List.map_append, *]; (try rfl); done)) (Valid_con a) ?_
        | refine call_val (by first | (simp only [sxc, sx6, z0, p0, Nat.reduceEqDiff, ↓reduceIte, AV.ex.injEq, Value.bool.injEq, Value.int.injEq, Value.string.injEq, List.all_append, List.map_append]; (try rfl); done) | (simp only [sxc, sx6, z0, p0, Nat.reduceEqDiff, ↓reduceIte, AV.ex.injEq, Value.bool.injEq, Value.int.injEq, Value.string.injEq, List.all_append, List.map_append, *]; (try rfl); done)) (places_con d) ?_
        | refine vplain ?_
        | refine vdraws (by kernel_rfl) ?_
        | refine vbuildS (by simp only [tyb, elemOf_s]) (by simp only [tyb, elemOf_s, List.length_cons, List.length_nil, List.all_cons, List.all_nil, Value.oneCell', Bool.and_self, Nat.reduceAdd, Nat.reduceMul, Nat.reduceLeDiff, Nat.reduceLT, true_and, and_true, and_self, Nat.lt_add_one, Nat.zero_mul, Nat.zero_le, Nat.one_mul]) ?_
        | refine vcond ?_
        | refine awp_exit ?_
        | refine awp_skip ?_
        | refine And.intro (by first | omega | assumption | exact setOk_ge (by decide +kernel) | exact setOk_late (by decide +kernel) (by (simp (disch := omega) only [sx0, sx1, sx2, sx3, sx4, sx5, sx6, isBytes, ATy.isAgg, ATy.known, tyb, Nat.reduceAdd, Nat.reduceMul, Nat.reduceEqDiff, Nat.reduceLT, Nat.reduceLeDiff, ↓reduceIte, implies_true, decide_true, decide_false, ne_eq, Value.oneCell', Int.reduceToNat, ite_self, beq_self_eq_true, bne_self_eq_false, gt_iff_lt, Int.reduceEq, Int.reduceLT, Int.reduceLE, Int.reduceNe, List.forall_mem_cons, false_implies, forall_const, natS, *]; rfl)) (by refine wkR_row ?_; repeat' (first | exact trivial | refine wkL_c (by decide +kernel) ?_)) | exact Nat.le_of_ble_eq_true (by kernel_rfl)) ?_
        | refine nqif_ways (fun h => ?_) ?_
        | ((first | refine gif_ways (fun h => ?_) (fun h => ?_) | refine cif_ways (fun h => ?_) (fun h => ?_)) <;> (try simp only [decide_eq_true_eq, decide_eq_false_iff_not, Bool.not_eq_true', Bool.not_eq_false', Bool.not_true, Bool.not_false] at h) <;> (try (exfalso; omega)))) <;> (try (simp (disch := omega) only [sx0, sx1, sx2, sx3, sx4, sx5, sx6, isBytes, ATy.isAgg, ATy.known, tyb, Nat.reduceAdd, Nat.reduceMul, Nat.reduceEqDiff, Nat.reduceLT, Nat.reduceLeDiff, ↓reduceIte, implies_true, decide_true, decide_false, ne_eq, Value.oneCell', Int.reduceToNat, ite_self, beq_self_eq_true, bne_self_eq_false, gt_iff_lt, Int.reduceEq, Int.reduceLT, Int.reduceLE, Int.reduceNe, List.forall_mem_cons, false_implies, forall_const, *])))))
    all_goals simp only [sxc, sx6, z0, p0, Nat.reduceEqDiff, ↓reduceIte, AV.ex.injEq, Value.bool.injEq, Value.int.injEq, Value.string.injEq, List.all_append, List.map_append, Tryd.f15, *]
  · cases hv : valid3 a with
    | true =>
      (repeat' (first
    | refine awp_seq ?_
    | refine awp_block ?_
    | (refine awp_ret ?_; simp only [then_ret, block_ret, end_ret])
    | ((first
        | refine call_val (by first | (simp only [sxc, sx6, z0, p0, Nat.reduceEqDiff, ↓reduceIte, AV.ex.injEq, Value.bool.injEq, Value.int.injEq, Value.string.injEq, List.all_append, List.map_append]; (try rfl); done) | (simp only [sxc, sx6, z0, p0, Nat.reduceEqDiff, ↓reduceIte, AV.ex.injEq, Value.bool.injEq, Value.int.injEq, Value.string.injEq, List.all_append, List.map_append, *]; (try rfl); done)) (Valid_con a) ?_
        | refine call_val (by first | (simp only [sxc, sx6, z0, p0, Nat.reduceEqDiff, ↓reduceIte, AV.ex.injEq, Value.bool.injEq, Value.int.injEq, Value.string.injEq, List.all_append, List.map_append]; (try rfl); done) | (simp only [sxc, sx6, z0, p0, Nat.reduceEqDiff, ↓reduceIte, AV.ex.injEq, Value.bool.injEq, Value.int.injEq, Value.string.injEq, List.all_append, List.map_append, *]; (try rfl); done)) (places_con d) ?_
        | refine vplain ?_
        | refine vdraws (by kernel_rfl) ?_
        | refine vbuildS (by simp only [tyb, elemOf_s]) (by simp only [tyb, elemOf_s, List.length_cons, List.length_nil, List.all_cons, List.all_nil, Value.oneCell', Bool.and_self, Nat.reduceAdd, Nat.reduceMul, Nat.reduceLeDiff, Nat.reduceLT, true_and, and_true, and_self, Nat.lt_add_one, Nat.zero_mul, Nat.zero_le, Nat.one_mul]) ?_
        | refine vcond ?_
        | refine awp_exit ?_
        | refine awp_skip ?_
        | refine And.intro (by first | omega | assumption | exact setOk_ge (by decide +kernel) | exact setOk_late (by decide +kernel) (by (simp (disch := omega) only [sx0, sx1, sx2, sx3, sx4, sx5, sx6, isBytes, ATy.isAgg, ATy.known, tyb, Nat.reduceAdd, Nat.reduceMul, Nat.reduceEqDiff, Nat.reduceLT, Nat.reduceLeDiff, ↓reduceIte, implies_true, decide_true, decide_false, ne_eq, Value.oneCell', Int.reduceToNat, ite_self, beq_self_eq_true, bne_self_eq_false, gt_iff_lt, Int.reduceEq, Int.reduceLT, Int.reduceLE, Int.reduceNe, List.forall_mem_cons, false_implies, forall_const, natS, *]; rfl)) (by refine wkR_row ?_; repeat' (first | exact trivial | refine wkL_c (by decide +kernel) ?_)) | exact Nat.le_of_ble_eq_true (by kernel_rfl)) ?_
        | refine nqif_ways (fun h => ?_) ?_
        | ((first | refine gif_ways (fun h => ?_) (fun h => ?_) | refine cif_ways (fun h => ?_) (fun h => ?_)) <;> (try simp only [decide_eq_true_eq, decide_eq_false_iff_not, Bool.not_eq_true', Bool.not_eq_false', Bool.not_true, Bool.not_false] at h) <;> (try (exfalso; omega)))) <;> (try (simp (disch := omega) only [sx0, sx1, sx2, sx3, sx4, sx5, sx6, isBytes, ATy.isAgg, ATy.known, tyb, Nat.reduceAdd, Nat.reduceMul, Nat.reduceEqDiff, Nat.reduceLT, Nat.reduceLeDiff, ↓reduceIte, implies_true, decide_true, decide_false, ne_eq, Value.oneCell', Int.reduceToNat, ite_self, beq_self_eq_true, bne_self_eq_false, gt_iff_lt, Int.reduceEq, Int.reduceLT, Int.reduceLE, Int.reduceNe, List.forall_mem_cons, false_implies, forall_const, *])))))
      all_goals simp only [sxc, sx6, z0, p0, Nat.reduceEqDiff, ↓reduceIte, AV.ex.injEq, Value.bool.injEq, Value.int.injEq, Value.string.injEq, List.all_append, List.map_append, Tryd.f15, *]
    | false =>
      (repeat' (first
    | refine awp_seq ?_
    | refine awp_block ?_
    | (refine awp_ret ?_; simp only [then_ret, block_ret, end_ret])
    | ((first
        | refine call_val (by first | (simp only [sxc, sx6, z0, p0, Nat.reduceEqDiff, ↓reduceIte, AV.ex.injEq, Value.bool.injEq, Value.int.injEq, Value.string.injEq, List.all_append, List.map_append]; (try rfl); done) | (simp only [sxc, sx6, z0, p0, Nat.reduceEqDiff, ↓reduceIte, AV.ex.injEq, Value.bool.injEq, Value.int.injEq, Value.string.injEq, List.all_append, List.map_append, *]; (try rfl); done)) (Valid_con a) ?_
        | refine call_val (by first | (simp only [sxc, sx6, z0, p0, Nat.reduceEqDiff, ↓reduceIte, AV.ex.injEq, Value.bool.injEq, Value.int.injEq, Value.string.injEq, List.all_append, List.map_append]; (try rfl); done) | (simp only [sxc, sx6, z0, p0, Nat.reduceEqDiff, ↓reduceIte, AV.ex.injEq, Value.bool.injEq, Value.int.injEq, Value.string.injEq, List.all_append, List.map_append, *]; (try rfl); done)) (places_con d) ?_
        | refine vplain ?_
        | refine vdraws (by kernel_rfl) ?_
        | refine vbuildS (by simp only [tyb, elemOf_s]) (by simp only [tyb, elemOf_s, List.length_cons, List.length_nil, List.all_cons, List.all_nil, Value.oneCell', Bool.and_self, Nat.reduceAdd, Nat.reduceMul, Nat.reduceLeDiff, Nat.reduceLT, true_and, and_true, and_self, Nat.lt_add_one, Nat.zero_mul, Nat.zero_le, Nat.one_mul]) ?_
        | refine vcond ?_
        | refine awp_exit ?_
        | refine awp_skip ?_
        | refine And.intro (by first | omega | assumption | exact setOk_ge (by decide +kernel) | exact setOk_late (by decide +kernel) (by (simp (disch := omega) only [sx0, sx1, sx2, sx3, sx4, sx5, sx6, isBytes, ATy.isAgg, ATy.known, tyb, Nat.reduceAdd, Nat.reduceMul, Nat.reduceEqDiff, Nat.reduceLT, Nat.reduceLeDiff, ↓reduceIte, implies_true, decide_true, decide_false, ne_eq, Value.oneCell', Int.reduceToNat, ite_self, beq_self_eq_true, bne_self_eq_false, gt_iff_lt, Int.reduceEq, Int.reduceLT, Int.reduceLE, Int.reduceNe, List.forall_mem_cons, false_implies, forall_const, natS, *]; rfl)) (by refine wkR_row ?_; repeat' (first | exact trivial | refine wkL_c (by decide +kernel) ?_)) | exact Nat.le_of_ble_eq_true (by kernel_rfl)) ?_
        | refine nqif_ways (fun h => ?_) ?_
        | ((first | refine gif_ways (fun h => ?_) (fun h => ?_) | refine cif_ways (fun h => ?_) (fun h => ?_)) <;> (try simp only [decide_eq_true_eq, decide_eq_false_iff_not, Bool.not_eq_true', Bool.not_eq_false', Bool.not_true, Bool.not_false] at h) <;> (try (exfalso; omega)))) <;> (try (simp (disch := omega) only [sx0, sx1, sx2, sx3, sx4, sx5, sx6, isBytes, ATy.isAgg, ATy.known, tyb, Nat.reduceAdd, Nat.reduceMul, Nat.reduceEqDiff, Nat.reduceLT, Nat.reduceLeDiff, ↓reduceIte, implies_true, decide_true, decide_false, ne_eq, Value.oneCell', Int.reduceToNat, ite_self, beq_self_eq_true, bne_self_eq_false, gt_iff_lt, Int.reduceEq, Int.reduceLT, Int.reduceLE, Int.reduceNe, List.forall_mem_cons, false_implies, forall_const, *])))))
      all_goals simp only [sxc, sx6, z0, p0, Nat.reduceEqDiff, ↓reduceIte, AV.ex.injEq, Value.bool.injEq, Value.int.injEq, Value.string.injEq, List.all_append, List.map_append, Tryd.f15, *]
theorem Format_con (a d : Int) (_h0 : -9223372036854775808 ≤ d) : Con Tryd.prog Ctx 15 [.ex (.int .i64 a), .ex (.int .i64 d)] (.val (.tup [.ex (.string (formatS a d)), .ex (.int .i64 (formatE a d))])) := by
  by_cases h : valid3 a = true ∧ placesB d = true
  · obtain ⟨h1, h2⟩ := h
    obtain ⟨d1, d2⟩ := placesB_iff.1 h2
    obtain ⟨e, rfl⟩ : ∃ e : Nat, d = e := ⟨d.toNat, by omega⟩
    by_cases hs : a < 0
    · exact Format_neg a e h1 h2 hs
    · exact Format_pos a e h1 h2 hs
  · exact Format_no a d (by
      cases h1 : valid3 a
      · exact .inl rfl
      · cases h2 : placesB d
        · exact .inr rfl
        · exact absurd ⟨h1, h2⟩ h)
end Go.Proofs.YtaphbajfjmhpnaaDoor
