/-
  Chapter 03, walked: codes, sums, currencies. Conditions: those that each theorem states.
-/
import Derived.Test.YtaphbajfjmhpnaaDoorC03B
namespace Go.Proofs.YtaphbajfjmhpnaaDoor
open Go.RowKit
set_option maxRecDepth 100000
set_option linter.unusedSimpArgs false

theorem codeB_len {l : List UInt8} (h : l.length ≠ 3) : codeB l = false := by unfold codeB; rw [decide_eq_false h]; rfl
theorem codeB_bad {l : List UInt8} {k : Nat} {c : UInt8} (e : l[k]? = some c) (hc : isU c = false) : codeB l = false := by unfold codeB; rw [allp_bad e hc, Bool.and_false]
theorem codeB_ok {l : List UInt8} (h : l.length = 3) (h2 : l.all isU = true) : codeB l = true := by unfold codeB; rw [decide_eq_true h, h2]; rfl
theorem isU_no {c : UInt8} (h : ¬ isU c = true) : c.toNat < 65 ∨ 90 < c.toNat := by rw [isU_iff] at h; omega
theorem RCode_con (s : ByteArray) (hs : s.size ≤ 9223372036854775807) : Con Tryd.prog Ctx 14 [.ex (.string s)] (.val (.ex (.bool (codeB s.data.toList)))) := by
  refine con_val base Tryd.func14 rfl rfl (by kernel_rfl) (Nat.le_of_ble_eq_true rfl) ?_
  rw [init_eq]
  by_cases s3 : s.size = 3
  · (repeat' (first
    | refine awp_seq ?_
    | refine awp_block ?_
    | (refine awp_ret ?_; simp only [then_ret, block_ret, end_ret])
    | ((first
        | refine vplain ?_
        | refine vdraws (by kernel_rfl) ?_
        | refine vbuildS (by simp only [tyb, elemOf_s]) (by simp only [tyb, elemOf_s, List.length_cons, List.length_nil, List.all_cons, List.all_nil, Value.oneCell', Bool.and_self, Nat.reduceAdd, Nat.reduceMul, Nat.reduceLeDiff, Nat.reduceLT, true_and, and_true, and_self, Nat.lt_add_one, Nat.zero_mul, Nat.zero_le, Nat.one_mul]) ?_
        | refine vcond ?_
        | refine awp_exit ?_
        | refine awp_skip ?_
        | refine And.intro (by first | omega | assumption | exact setOk_ge (by decide +kernel) | exact setOk_late (by decide +kernel) (by (simp (disch := omega) only [sx0, sx1, sx2, sx3, sx4, sx5, sx6, isBytes, ATy.isAgg, ATy.known, tyb, Nat.reduceAdd, Nat.reduceMul, Nat.reduceEqDiff, Nat.reduceLT, Nat.reduceLeDiff, ↓reduceIte, implies_true, decide_true, decide_false, ne_eq, Value.oneCell', Int.reduceToNat, ite_self, beq_self_eq_true, bne_self_eq_false, gt_iff_lt, Int.reduceEq, Int.reduceLT, Int.reduceLE, Int.reduceNe, List.forall_mem_cons, false_implies, forall_const, natS, *]; rfl)) (by refine wkR_row ?_; repeat' (first | exact trivial | refine wkL_c (by decide +kernel) ?_)) | exact Nat.le_of_ble_eq_true (by kernel_rfl)) ?_
        | refine nqif_ways (fun h => ?_) ?_
        | ((first | refine gif_ways (fun h => ?_) (fun h => ?_) | refine cif_ways (fun h => ?_) (fun h => ?_)) <;> (try simp only [decide_eq_true_eq, decide_eq_false_iff_not, Bool.not_eq_true', Bool.not_eq_false', Bool.not_true, Bool.not_false] at h) <;> (try (exfalso; omega)))) <;> (try (simp (disch := omega) only [sx0, sx1, sx2, sx3, sx4, sx5, sx6, isBytes, ATy.isAgg, ATy.known, tyb, Nat.reduceAdd, Nat.reduceMul, Nat.reduceEqDiff, Nat.reduceLT, Nat.reduceLeDiff, ↓reduceIte, implies_true, decide_true, decide_false, ne_eq, Value.oneCell', Int.reduceToNat, ite_self, beq_self_eq_true, bne_self_eq_false, gt_iff_lt, Int.reduceEq, Int.reduceLT, Int.reduceLE, Int.reduceNe, List.forall_mem_cons, false_implies, forall_const, *])))))
    refine vloop (fun n tm hp nx => ∃ k : Nat, n = 3 - k ∧ k ≤ 3 ∧ tm 0 = .ex (.string s) ∧ tm 3 = .ex (.int .i64 k) ∧ Hid ((s.data.toList.take k).all isU = true)) 3 ⟨0, rfl, Nat.zero_le _, by (first | rfl | (simp (disch := omega) only [sx0, sx1, sx2, sx3, sx4, sx5, sx6, isBytes, ATy.isAgg, ATy.known, tyb, Nat.reduceAdd, Nat.reduceMul, Nat.reduceEqDiff, Nat.reduceLT, Nat.reduceLeDiff, ↓reduceIte, implies_true, decide_true, decide_false, ne_eq, Value.oneCell', Int.reduceToNat, ite_self, beq_self_eq_true, bne_self_eq_false, gt_iff_lt, Int.reduceEq, Int.reduceLT, Int.reduceLE, Int.reduceNe, List.forall_mem_cons, false_implies, forall_const, natS, *])), by (first | rfl | (simp (disch := omega) only [sx0, sx1, sx2, sx3, sx4, sx5, sx6, isBytes, ATy.isAgg, ATy.known, tyb, Nat.reduceAdd, Nat.reduceMul, Nat.reduceEqDiff, Nat.reduceLT, Nat.reduceLeDiff, ↓reduceIte, implies_true, decide_true, decide_false, ne_eq, Value.oneCell', Int.reduceToNat, ite_self, beq_self_eq_true, bne_self_eq_false, gt_iff_lt, Int.reduceEq, Int.reduceLT, Int.reduceLE, Int.reduceNe, List.forall_mem_cons, false_implies, forall_const, natS, *])), Lib.hid rfl⟩ ?_
    rintro n tm hp nx ⟨k, hn, hkl, g0, g3, hH⟩
    by_cases hlt : k < 3
    · have f1 := byte_at s k (by omega)
      generalize hc : s[k]'(by omega) = c at f1
      by_cases hu : isU c = true
      · have hnx := Lib.hid (allp_next f1 hH.out hu)
        rw [isU_iff] at hu
        obtain ⟨u1, u2⟩ := hu
        clear f1
        (repeat' (first
    | refine awp_seq ?_
    | refine awp_block ?_
    | (refine awp_ret ?_; simp only [then_ret, block_ret, end_ret])
    | ((first
        | refine vplain ?_
        | refine vdraws (by kernel_rfl) ?_
        | refine vbuildS (by simp only [tyb, elemOf_s]) (by simp only [tyb, elemOf_s, List.length_cons, List.length_nil, List.all_cons, List.all_nil, Value.oneCell', Bool.and_self, Nat.reduceAdd, Nat.reduceMul, Nat.reduceLeDiff, Nat.reduceLT, true_and, and_true, and_self, Nat.lt_add_one, Nat.zero_mul, Nat.zero_le, Nat.one_mul]) ?_
        | refine vcond ?_
        | refine awp_exit ?_
        | refine awp_skip ?_
        | refine And.intro (by first | omega | assumption | exact setOk_ge (by decide +kernel) | exact setOk_late (by decide +kernel) (by (simp (disch := omega) only [sx0, sx1, sx2, sx3, sx4, sx5, sx6, isBytes, ATy.isAgg, ATy.known, tyb, Nat.reduceAdd, Nat.reduceMul, Nat.reduceEqDiff, Nat.reduceLT, Nat.reduceLeDiff, ↓reduceIte, implies_true, decide_true, decide_false, ne_eq, Value.oneCell', Int.reduceToNat, ite_self, beq_self_eq_true, bne_self_eq_false, gt_iff_lt, Int.reduceEq, Int.reduceLT, Int.reduceLE, Int.reduceNe, List.forall_mem_cons, false_implies, forall_const, natS, *]; rfl)) (by refine wkR_row ?_; repeat' (first | exact trivial | refine wkL_c (by decide +kernel) ?_)) | exact Nat.le_of_ble_eq_true (by kernel_rfl)) ?_
        | refine nqif_ways (fun h => ?_) ?_
        | ((first | refine gif_ways (fun h => ?_) (fun h => ?_) | refine cif_ways (fun h => ?_) (fun h => ?_)) <;> (try simp only [decide_eq_true_eq, decide_eq_false_iff_not, Bool.not_eq_true', Bool.not_eq_false', Bool.not_true, Bool.not_false] at h) <;> (try (exfalso; omega)))) <;> (try (simp (disch := omega) only [sx0, sx1, sx2, sx3, sx4, sx5, sx6, isBytes, ATy.isAgg, ATy.known, tyb, Nat.reduceAdd, Nat.reduceMul, Nat.reduceEqDiff, Nat.reduceLT, Nat.reduceLeDiff, ↓reduceIte, implies_true, decide_true, decide_false, ne_eq, Value.oneCell', Int.reduceToNat, ite_self, beq_self_eq_true, bne_self_eq_false, gt_iff_lt, Int.reduceEq, Int.reduceLT, Int.reduceLE, Int.reduceNe, List.forall_mem_cons, false_implies, forall_const, *])))))
        exact kround_i (3 - (k + 1)) (by omega) ⟨k + 1, rfl, by omega, by (first | rfl | (simp (disch := omega) only [sx0, sx1, sx2, sx3, sx4, sx5, sx6, isBytes, ATy.isAgg, ATy.known, tyb, Nat.reduceAdd, Nat.reduceMul, Nat.reduceEqDiff, Nat.reduceLT, Nat.reduceLeDiff, ↓reduceIte, implies_true, decide_true, decide_false, ne_eq, Value.oneCell', Int.reduceToNat, ite_self, beq_self_eq_true, bne_self_eq_false, gt_iff_lt, Int.reduceEq, Int.reduceLT, Int.reduceLE, Int.reduceNe, List.forall_mem_cons, false_implies, forall_const, natS, *])), by (first | rfl | (simp (disch := omega) only [sx0, sx1, sx2, sx3, sx4, sx5, sx6, isBytes, ATy.isAgg, ATy.known, tyb, Nat.reduceAdd, Nat.reduceMul, Nat.reduceEqDiff, Nat.reduceLT, Nat.reduceLeDiff, ↓reduceIte, implies_true, decide_true, decide_false, ne_eq, Value.oneCell', Int.reduceToNat, ite_self, beq_self_eq_true, bne_self_eq_false, gt_iff_lt, Int.reduceEq, Int.reduceLT, Int.reduceLE, Int.reduceNe, List.forall_mem_cons, false_implies, forall_const, natS, *])), hnx⟩
      · have hr := codeB_bad f1 (show isU c = false by simpa using hu)
        have hu2 := isU_no hu
        clear f1 hu
        (repeat' (first
    | refine awp_seq ?_
    | refine awp_block ?_
    | (refine awp_ret ?_; simp only [then_ret, block_ret, end_ret])
    | ((first
        | refine vplain ?_
        | refine vdraws (by kernel_rfl) ?_
        | refine vbuildS (by simp only [tyb, elemOf_s]) (by simp only [tyb, elemOf_s, List.length_cons, List.length_nil, List.all_cons, List.all_nil, Value.oneCell', Bool.and_self, Nat.reduceAdd, Nat.reduceMul, Nat.reduceLeDiff, Nat.reduceLT, true_and, and_true, and_self, Nat.lt_add_one, Nat.zero_mul, Nat.zero_le, Nat.one_mul]) ?_
        | refine vcond ?_
        | refine awp_exit ?_
        | refine awp_skip ?_
        | refine And.intro (by first | omega | assumption | exact setOk_ge (by decide +kernel) | exact setOk_late (by decide +kernel) (by (simp (disch := omega) only [sx0, sx1, sx2, sx3, sx4, sx5, sx6, isBytes, ATy.isAgg, ATy.known, tyb, Nat.reduceAdd, Nat.reduceMul, Nat.reduceEqDiff, Nat.reduceLT, Nat.reduceLeDiff, ↓reduceIte, implies_true, decide_true, decide_false, ne_eq, Value.oneCell', Int.reduceToNat, ite_self, beq_self_eq_true, bne_self_eq_false, gt_iff_lt, Int.reduceEq, Int.reduceLT, Int.reduceLE, Int.reduceNe, List.forall_mem_cons, false_implies, forall_const, natS, *]; rfl)) (by refine wkR_row ?_; repeat' (first | exact trivial | refine wkL_c (by decide +kernel) ?_)) | exact Nat.le_of_ble_eq_true (by kernel_rfl)) ?_
        | refine nqif_ways (fun h => ?_) ?_
        | ((first | refine gif_ways (fun h => ?_) (fun h => ?_) | refine cif_ways (fun h => ?_) (fun h => ?_)) <;> (try simp only [decide_eq_true_eq, decide_eq_false_iff_not, Bool.not_eq_true', Bool.not_eq_false', Bool.not_true, Bool.not_false] at h) <;> (try (exfalso; omega)))) <;> (try (simp (disch := omega) only [sx0, sx1, sx2, sx3, sx4, sx5, sx6, isBytes, ATy.isAgg, ATy.known, tyb, Nat.reduceAdd, Nat.reduceMul, Nat.reduceEqDiff, Nat.reduceLT, Nat.reduceLeDiff, ↓reduceIte, implies_true, decide_true, decide_false, ne_eq, Value.oneCell', Int.reduceToNat, ite_self, beq_self_eq_true, bne_self_eq_false, gt_iff_lt, Int.reduceEq, Int.reduceLT, Int.reduceLE, Int.reduceNe, List.forall_mem_cons, false_implies, forall_const, *])))))
        all_goals simp only [sxc, sx6, z0, p0, Nat.reduceEqDiff, ↓reduceIte, AV.ex.injEq, Value.bool.injEq, Value.int.injEq, Value.string.injEq, List.all_append, List.map_append, Tryd.f14, *]
    · have hr := codeB_ok (by rw [size_toList]; exact s3) (allp_end (show s.data.toList.length ≤ k by rw [size_toList]; omega) hH.out)
      (repeat' (first
    | refine awp_seq ?_
    | refine awp_block ?_
    | (refine awp_ret ?_; simp only [then_ret, block_ret, end_ret])
    | ((first
        | refine vplain ?_
        | refine vdraws (by kernel_rfl) ?_
        | refine vbuildS (by simp only [tyb, elemOf_s]) (by simp only [tyb, elemOf_s, List.length_cons, List.length_nil, List.all_cons, List.all_nil, Value.oneCell', Bool.and_self, Nat.reduceAdd, Nat.reduceMul, Nat.reduceLeDiff, Nat.reduceLT, true_and, and_true, and_self, Nat.lt_add_one, Nat.zero_mul, Nat.zero_le, Nat.one_mul]) ?_
        | refine vcond ?_
        | refine awp_exit ?_
        | refine awp_skip ?_
        | refine And.intro (by first | omega | assumption | exact setOk_ge (by decide +kernel) | exact setOk_late (by decide +kernel) (by (simp (disch := omega) only [sx0, sx1, sx2, sx3, sx4, sx5, sx6, isBytes, ATy.isAgg, ATy.known, tyb, Nat.reduceAdd, Nat.reduceMul, Nat.reduceEqDiff, Nat.reduceLT, Nat.reduceLeDiff, ↓reduceIte, implies_true, decide_true, decide_false, ne_eq, Value.oneCell', Int.reduceToNat, ite_self, beq_self_eq_true, bne_self_eq_false, gt_iff_lt, Int.reduceEq, Int.reduceLT, Int.reduceLE, Int.reduceNe, List.forall_mem_cons, false_implies, forall_const, natS, *]; rfl)) (by refine wkR_row ?_; repeat' (first | exact trivial | refine wkL_c (by decide +kernel) ?_)) | exact Nat.le_of_ble_eq_true (by kernel_rfl)) ?_
        | refine nqif_ways (fun h => ?_) ?_
        | ((first | refine gif_ways (fun h => ?_) (fun h => ?_) | refine cif_ways (fun h => ?_) (fun h => ?_)) <;> (try simp only [decide_eq_true_eq, decide_eq_false_iff_not, Bool.not_eq_true', Bool.not_eq_false', Bool.not_true, Bool.not_false] at h) <;> (try (exfalso; omega)))) <;> (try (simp (disch := omega) only [sx0, sx1, sx2, sx3, sx4, sx5, sx6, isBytes, ATy.isAgg, ATy.known, tyb, Nat.reduceAdd, Nat.reduceMul, Nat.reduceEqDiff, Nat.reduceLT, Nat.reduceLeDiff, ↓reduceIte, implies_true, decide_true, decide_false, ne_eq, Value.oneCell', Int.reduceToNat, ite_self, beq_self_eq_true, bne_self_eq_false, gt_iff_lt, Int.reduceEq, Int.reduceLT, Int.reduceLE, Int.reduceNe, List.forall_mem_cons, false_implies, forall_const, *])))))
      all_goals simp only [sxc, sx6, z0, p0, Nat.reduceEqDiff, ↓reduceIte, AV.ex.injEq, Value.bool.injEq, Value.int.injEq, Value.string.injEq, List.all_append, List.map_append, Tryd.f14, *]
  · have hr := codeB_len (l := s.data.toList) (by rw [size_toList]; exact s3)
    (repeat' (first
    | refine awp_seq ?_
    | refine awp_block ?_
    | (refine awp_ret ?_; simp only [then_ret, block_ret, end_ret])
    | ((first
        | refine vplain ?_
        | refine vdraws (by kernel_rfl) ?_
        | refine vbuildS (by simp only [tyb, elemOf_s]) (by simp only [tyb, elemOf_s, List.length_cons, List.length_nil, List.all_cons, List.all_nil, Value.oneCell', Bool.and_self, Nat.reduceAdd, Nat.reduceMul, Nat.reduceLeDiff, Nat.reduceLT, true_and, and_true, and_self, Nat.lt_add_one, Nat.zero_mul, Nat.zero_le, Nat.one_mul]) ?_
        | refine vcond ?_
        | refine awp_exit ?_
        | refine awp_skip ?_
        | refine And.intro (by first | omega | assumption | exact setOk_ge (by decide +kernel) | exact setOk_late (by decide +kernel) (by (simp (disch := omega) only [sx0, sx1, sx2, sx3, sx4, sx5, sx6, isBytes, ATy.isAgg, ATy.known, tyb, Nat.reduceAdd, Nat.reduceMul, Nat.reduceEqDiff, Nat.reduceLT, Nat.reduceLeDiff, ↓reduceIte, implies_true, decide_true, decide_false, ne_eq, Value.oneCell', Int.reduceToNat, ite_self, beq_self_eq_true, bne_self_eq_false, gt_iff_lt, Int.reduceEq, Int.reduceLT, Int.reduceLE, Int.reduceNe, List.forall_mem_cons, false_implies, forall_const, natS, *]; rfl)) (by refine wkR_row ?_; repeat' (first | exact trivial | refine wkL_c (by decide +kernel) ?_)) | exact Nat.le_of_ble_eq_true (by kernel_rfl)) ?_
        | refine nqif_ways (fun h => ?_) ?_
        | ((first | refine gif_ways (fun h => ?_) (fun h => ?_) | refine cif_ways (fun h => ?_) (fun h => ?_)) <;> (try simp only [decide_eq_true_eq, decide_eq_false_iff_not, Bool.not_eq_true', Bool.not_eq_false', Bool.not_true, Bool.not_false] at h) <;> (try (exfalso; omega)))) <;> (try (simp (disch := omega) only [sx0, sx1, sx2, sx3, sx4, sx5, sx6, isBytes, ATy.isAgg, ATy.known, tyb, Nat.reduceAdd, Nat.reduceMul, Nat.reduceEqDiff, Nat.reduceLT, Nat.reduceLeDiff, ↓reduceIte, implies_true, decide_true, decide_false, ne_eq, Value.oneCell', Int.reduceToNat, ite_self, beq_self_eq_true, bne_self_eq_false, gt_iff_lt, Int.reduceEq, Int.reduceLT, Int.reduceLE, Int.reduceNe, List.forall_mem_cons, false_implies, forall_const, *])))))
    all_goals simp only [sxc, sx6, z0, p0, Nat.reduceEqDiff, ↓reduceIte, AV.ex.injEq, Value.bool.injEq, Value.int.injEq, Value.string.injEq, List.all_append, List.map_append, Tryd.f14, *]

theorem add_arg {a b : Int} (h : valid3 a = false ∨ valid3 b = false) : addV a b = 0 ∧ addE a b = 1 := by
  unfold addV addE
  rcases h with h | h <;> simp [h]
theorem add_over {a b : Int} (h1 : valid3 a = true) (h2 : valid3 b = true) (h : valid3 (a + b) = false) : addV a b = 0 ∧ addE a b = 6 := by simp [addV, addE, h1, h2, h]
theorem add_ok {a b : Int} (h1 : valid3 a = true) (h2 : valid3 b = true) (h : valid3 (a + b) = true) : addV a b = a + b ∧ addE a b = 0 := by simp [addV, addE, h1, h2, h]
theorem Add_con (a b : Int) : Con Tryd.prog Ctx 20 [.ex (.int .i64 a), .ex (.int .i64 b)] (.val (.tup [.ex (.int .i64 (addV a b)), .ex (.int .i64 (addE a b))])) := by
  refine con_val base Tryd.func20 rfl rfl (by kernel_rfl) (Nat.le_of_ble_eq_true rfl) ?_
  rw [init_eq]
  cases h1 : valid3 a with
  | false =>
    obtain ⟨r1, r2⟩ := add_arg (b := b) (.inl h1)
    (repeat' (first
    | refine awp_seq ?_
    | refine awp_block ?_
    | (refine awp_ret ?_; simp only [then_ret, block_ret, end_ret])
    | ((first
        | refine call_val (by first | (simp only [sxc, sx6, z0, p0, Nat.reduceEqDiff, ↓reduceIte, AV.ex.injEq, Value.bool.injEq, Value.int.injEq, Value.string.injEq, List.all_append, List.map_append]; (try rfl); done) | (simp only [sxc, sx6, z0, p0, Nat.reduceEqDiff, ↓reduceIte, AV.ex.injEq, Value.bool.injEq, Value.int.injEq, Value.string.injEq, List.all_append, List.map_append, *]; (try rfl); done)) (Valid_con a) ?_
        | refine call_val (by first | (simp only [sxc, sx6, z0, p0, Nat.reduceEqDiff, ↓reduceIte, AV.ex.injEq, Value.bool.injEq, Value.int.injEq, Value.string.injEq, List.all_append, List.map_append]; (try rfl); done) | (simp only [sxc, sx6, z0, p0, Nat.reduceEqDiff, ↓reduceIte, AV.ex.injEq, Value.bool.injEq, Value.int.injEq, Value.string.injEq, List.all_append, List.map_append, *]; (try rfl); done)) (Valid_con b) ?_
        | refine vplain ?_
        | refine vdraws (by kernel_rfl) ?_
        | refine vbuildS (by simp only [tyb, elemOf_s]) (by simp only [tyb, elemOf_s, List.length_cons, List.length_nil, List.all_cons, List.all_nil, Value.oneCell', Bool.and_self, Nat.reduceAdd, Nat.reduceMul, Nat.reduceLeDiff, Nat.reduceLT, true_and, and_true, and_self, Nat.lt_add_one, Nat.zero_mul, Nat.zero_le, Nat.one_mul]) ?_
        | refine vcond ?_
        | refine awp_exit ?_
        | refine awp_skip ?_
        | refine And.intro (by first | omega | assumption | exact setOk_ge (by decide +kernel) | exact setOk_late (by decide +kernel) (by (simp (disch := omega) only [sx0, sx1, sx2, sx3, sx4, sx5, sx6, isBytes, ATy.isAgg, ATy.known, tyb, Nat.reduceAdd, Nat.reduceMul, Nat.reduceEqDiff, Nat.reduceLT, Nat.reduceLeDiff, ↓reduceIte, implies_true, decide_true, decide_false, ne_eq, Value.oneCell', Int.reduceToNat, ite_self, beq_self_eq_true, bne_self_eq_false, gt_iff_lt, Int.reduceEq, Int.reduceLT, Int.reduceLE, Int.reduceNe, List.forall_mem_cons, false_implies, forall_const, natS, *]; rfl)) (by refine wkR_row ?_; repeat' (first | exact trivial | refine wkL_c (by decide +kernel) ?_)) | exact Nat.le_of_ble_eq_true (by kernel_rfl)) ?_
        | refine nqif_ways (fun h => ?_) ?_
        | ((first | refine gif_ways (fun h => ?_) (fun h => ?_) | refine cif_ways (fun h => ?_) (fun h => ?_)) <;> (try simp only [decide_eq_true_eq, decide_eq_false_iff_not, Bool.not_eq_true', Bool.not_eq_false', Bool.not_true, Bool.not_false] at h) <;> (try (exfalso; omega)))) <;> (try (simp (disch := omega) only [sx0, sx1, sx2, sx3, sx4, sx5, sx6, isBytes, ATy.isAgg, ATy.known, tyb, Nat.reduceAdd, Nat.reduceMul, Nat.reduceEqDiff, Nat.reduceLT, Nat.reduceLeDiff, ↓reduceIte, implies_true, decide_true, decide_false, ne_eq, Value.oneCell', Int.reduceToNat, ite_self, beq_self_eq_true, bne_self_eq_false, gt_iff_lt, Int.reduceEq, Int.reduceLT, Int.reduceLE, Int.reduceNe, List.forall_mem_cons, false_implies, forall_const, *])))))
    all_goals simp only [sxc, sx6, z0, p0, Nat.reduceEqDiff, ↓reduceIte, AV.ex.injEq, Value.bool.injEq, Value.int.injEq, Value.string.injEq, List.all_append, List.map_append, Tryd.f20, *]
  | true => cases h2 : valid3 b with
    | false =>
      obtain ⟨r1, r2⟩ := add_arg (a := a) (.inr h2)
      (repeat' (first
    | refine awp_seq ?_
    | refine awp_block ?_
    | (refine awp_ret ?_; simp only [then_ret, block_ret, end_ret])
    | ((first
        | refine call_val (by first | (simp only [sxc, sx6, z0, p0, Nat.reduceEqDiff, ↓reduceIte, AV.ex.injEq, Value.bool.injEq, Value.int.injEq, Value.string.injEq, List.all_append, List.map_append]; (try rfl); done) | (simp only [sxc, sx6, z0, p0, Nat.reduceEqDiff, ↓reduceIte, AV.ex.injEq, Value.bool.injEq, Value.int.injEq, Value.string.injEq, List.all_append, List.map_append, *]; (try rfl); done)) (Valid_con a) ?_
        | refine call_val (by first | (simp only [sxc, sx6, z0, p0, Nat.reduceEqDiff, ↓reduceIte, AV.ex.injEq, Value.bool.injEq, Value.int.injEq, Value.string.injEq, List.all_append, List.map_append]; (try rfl); done) | (simp only [sxc, sx6, z0, p0, Nat.reduceEqDiff, ↓reduceIte, AV.ex.injEq, Value.bool.injEq, Value.int.injEq, Value.string.injEq, List.all_append, List.map_append, *]; (try rfl); done)) (Valid_con b) ?_
        | refine vplain ?_
        | refine vdraws (by kernel_rfl) ?_
        | refine vbuildS (by simp only [tyb, elemOf_s]) (by simp only [tyb, elemOf_s, List.length_cons, List.length_nil, List.all_cons, List.all_nil, Value.oneCell', Bool.and_self, Nat.reduceAdd, Nat.reduceMul, Nat.reduceLeDiff, Nat.reduceLT, true_and, and_true, and_self, Nat.lt_add_one, Nat.zero_mul, Nat.zero_le, Nat.one_mul]) ?_
        | refine vcond ?_
        | refine awp_exit ?_
        | refine awp_skip ?_
        | refine And.intro (by first | omega | assumption | exact setOk_ge (by decide +kernel) | exact setOk_late (by decide +kernel) (by (simp (disch := omega) only [sx0, sx1, sx2, sx3, sx4, sx5, sx6, isBytes, ATy.isAgg, ATy.known, tyb, Nat.reduceAdd, Nat.reduceMul, Nat.reduceEqDiff, Nat.reduceLT, Nat.reduceLeDiff, ↓reduceIte, implies_true, decide_true, decide_false, ne_eq, Value.oneCell', Int.reduceToNat, ite_self, beq_self_eq_true, bne_self_eq_false, gt_iff_lt, Int.reduceEq, Int.reduceLT, Int.reduceLE, Int.reduceNe, List.forall_mem_cons, false_implies, forall_const, natS, *]; rfl)) (by refine wkR_row ?_; repeat' (first | exact trivial | refine wkL_c (by decide +kernel) ?_)) | exact Nat.le_of_ble_eq_true (by kernel_rfl)) ?_
        | refine nqif_ways (fun h => ?_) ?_
        | ((first | refine gif_ways (fun h => ?_) (fun h => ?_) | refine cif_ways (fun h => ?_) (fun h => ?_)) <;> (try simp only [decide_eq_true_eq, decide_eq_false_iff_not, Bool.not_eq_true', Bool.not_eq_false', Bool.not_true, Bool.not_false] at h) <;> (try (exfalso; omega)))) <;> (try (simp (disch := omega) only [sx0, sx1, sx2, sx3, sx4, sx5, sx6, isBytes, ATy.isAgg, ATy.known, tyb, Nat.reduceAdd, Nat.reduceMul, Nat.reduceEqDiff, Nat.reduceLT, Nat.reduceLeDiff, ↓reduceIte, implies_true, decide_true, decide_false, ne_eq, Value.oneCell', Int.reduceToNat, ite_self, beq_self_eq_true, bne_self_eq_false, gt_iff_lt, Int.reduceEq, Int.reduceLT, Int.reduceLE, Int.reduceNe, List.forall_mem_cons, false_implies, forall_const, *])))))
      all_goals simp only [sxc, sx6, z0, p0, Nat.reduceEqDiff, ↓reduceIte, AV.ex.injEq, Value.bool.injEq, Value.int.injEq, Value.string.injEq, List.all_append, List.map_append, Tryd.f20, *]
    | true =>
      obtain ⟨a1, a2⟩ := valid3_iff.1 h1
      obtain ⟨b1, b2⟩ := valid3_iff.1 h2
      cases h3 : valid3 (a + b) with
      | false =>
        obtain ⟨r1, r2⟩ := add_over h1 h2 h3
        (repeat' (first
    | refine awp_seq ?_
    | refine awp_block ?_
    | (refine awp_ret ?_; simp only [then_ret, block_ret, end_ret])
    | ((first
        | refine call_val (by first | (simp only [sxc, sx6, z0, p0, Nat.reduceEqDiff, ↓reduceIte, AV.ex.injEq, Value.bool.injEq, Value.int.injEq, Value.string.injEq, List.all_append, List.map_append]; (try rfl); done) | (simp only [sxc, sx6, z0, p0, Nat.reduceEqDiff, ↓reduceIte, AV.ex.injEq, Value.bool.injEq, Value.int.injEq, Value.string.injEq, List.all_append, List.map_append, *]; (try rfl); done)) (Valid_con a) ?_
        | refine call_val (by first | (simp only [sxc, sx6, z0, p0, Nat.reduceEqDiff, ↓reduceIte, AV.ex.injEq, Value.bool.injEq, Value.int.injEq, Value.string.injEq, List.all_append, List.map_append]; (try rfl); done) | (simp only [sxc, sx6, z0, p0, Nat.reduceEqDiff, ↓reduceIte, AV.ex.injEq, Value.bool.injEq, Value.int.injEq, Value.string.injEq, List.all_append, List.map_append, *]; (try rfl); done)) (Valid_con b) ?_
        | refine call_val (by first | (simp only [sxc, sx6, z0, p0, Nat.reduceEqDiff, ↓reduceIte, AV.ex.injEq, Value.bool.injEq, Value.int.injEq, Value.string.injEq, List.all_append, List.map_append]; (try rfl); done) | (simp only [sxc, sx6, z0, p0, Nat.reduceEqDiff, ↓reduceIte, AV.ex.injEq, Value.bool.injEq, Value.int.injEq, Value.string.injEq, List.all_append, List.map_append, *]; (try rfl); done)) (Valid_con (a + b)) ?_
        | refine vplain ?_
        | refine vdraws (by kernel_rfl) ?_
        | refine vbuildS (by simp only [tyb, elemOf_s]) (by simp only [tyb, elemOf_s, List.length_cons, List.length_nil, List.all_cons, List.all_nil, Value.oneCell', Bool.and_self, Nat.reduceAdd, Nat.reduceMul, Nat.reduceLeDiff, Nat.reduceLT, true_and, and_true, and_self, Nat.lt_add_one, Nat.zero_mul, Nat.zero_le, Nat.one_mul]) ?_
        | refine vcond ?_
        | refine awp_exit ?_
        | refine awp_skip ?_
        | refine And.intro (by first | omega | assumption | exact setOk_ge (by decide +kernel) | exact setOk_late (by decide +kernel) (by (simp (disch := omega) only [sx0, sx1, sx2, sx3, sx4, sx5, sx6, isBytes, ATy.isAgg, ATy.known, tyb, Nat.reduceAdd, Nat.reduceMul, Nat.reduceEqDiff, Nat.reduceLT, Nat.reduceLeDiff, ↓reduceIte, implies_true, decide_true, decide_false, ne_eq, Value.oneCell', Int.reduceToNat, ite_self, beq_self_eq_true, bne_self_eq_false, gt_iff_lt, Int.reduceEq, Int.reduceLT, Int.reduceLE, Int.reduceNe, List.forall_mem_cons, false_implies, forall_const, natS, *]; rfl)) (by refine wkR_row ?_; repeat' (first | exact trivial | refine wkL_c (by decide +kernel) ?_)) | exact Nat.le_of_ble_eq_true (by kernel_rfl)) ?_
        | refine nqif_ways (fun h => ?_) ?_
        | ((first | refine gif_ways (fun h => ?_) (fun h => ?_) | refine cif_ways (fun h => ?_) (fun h => ?_)) <;> (try simp only [decide_eq_true_eq, decide_eq_false_iff_not, Bool.not_eq_true', Bool.not_eq_false', Bool.not_true, Bool.not_false] at h) <;> (try (exfalso; omega)))) <;> (try (simp (disch := omega) only [sx0, sx1, sx2, sx3, sx4, sx5, sx6, isBytes, ATy.isAgg, ATy.known, tyb, Nat.reduceAdd, Nat.reduceMul, Nat.reduceEqDiff, Nat.reduceLT, Nat.reduceLeDiff, ↓reduceIte, implies_true, decide_true, decide_false, ne_eq, Value.oneCell', Int.reduceToNat, ite_self, beq_self_eq_true, bne_self_eq_false, gt_iff_lt, Int.reduceEq, Int.reduceLT, Int.reduceLE, Int.reduceNe, List.forall_mem_cons, false_implies, forall_const, *])))))
        all_goals simp only [sxc, sx6, z0, p0, Nat.reduceEqDiff, ↓reduceIte, AV.ex.injEq, Value.bool.injEq, Value.int.injEq, Value.string.injEq, List.all_append, List.map_append, Tryd.f20, *]
      | true =>
        obtain ⟨r1, r2⟩ := add_ok h1 h2 h3
        (repeat' (first
    | refine awp_seq ?_
    | refine awp_block ?_
    | (refine awp_ret ?_; simp only [then_ret, block_ret, end_ret])
    | ((first
        | refine call_val (by first | (simp only [sxc, sx6, z0, p0, Nat.reduceEqDiff, ↓reduceIte, AV.ex.injEq, Value.bool.injEq, Value.int.injEq, Value.string.injEq, List.all_append, List.map_append]; (try rfl); done) | (simp only [sxc, sx6, z0, p0, Nat.reduceEqDiff, ↓reduceIte, AV.ex.injEq, Value.bool.injEq, Value.int.injEq, Value.string.injEq, List.all_append, List.map_append, *]; (try rfl); done)) (Valid_con a) ?_
        | refine call_val (by first | (simp only [sxc, sx6, z0, p0, Nat.reduceEqDiff, ↓reduceIte, AV.ex.injEq, Value.bool.injEq, Value.int.injEq, Value.string.injEq, List.all_append, List.map_append]; (try rfl); done) | (simp only [sxc, sx6, z0, p0, Nat.reduceEqDiff, ↓reduceIte, AV.ex.injEq, Value.bool.injEq, Value.int.injEq, Value.string.injEq, List.all_append, List.map_append, *]; (try rfl); done)) (Valid_con b) ?_
        | refine call_val (by first | (simp only [sxc, sx6, z0, p0, Nat.reduceEqDiff, ↓reduceIte, AV.ex.injEq, Value.bool.injEq, Value.int.injEq, Value.string.injEq, List.all_append, List.map_append]; (try rfl); done) | (simp only [sxc, sx6, z0, p0, Nat.reduceEqDiff, ↓reduceIte, AV.ex.injEq, Value.bool.injEq, Value.int.injEq, Value.string.injEq, List.all_append, List.map_append, *]; (try rfl); done)) (Valid_con (a + b)) ?_
        | refine vplain ?_
        | refine vdraws (by kernel_rfl) ?_
        | refine vbuildS (by simp only [tyb, elemOf_s]) (by simp only [tyb, elemOf_s, List.length_cons, List.length_nil, List.all_cons, List.all_nil, Value.oneCell', Bool.and_self, Nat.reduceAdd, Nat.reduceMul, Nat.reduceLeDiff, Nat.reduceLT, true_and, and_true, and_self, Nat.lt_add_one, Nat.zero_mul, Nat.zero_le, Nat.one_mul]) ?_
        | refine vcond ?_
        | refine awp_exit ?_
        | refine awp_skip ?_
        | refine And.intro (by first | omega | assumption | exact setOk_ge (by decide +kernel) | exact setOk_late (by decide +kernel) (by (simp (disch := omega) only [sx0, sx1, sx2, sx3, sx4, sx5, sx6, isBytes, ATy.isAgg, ATy.known, tyb, Nat.reduceAdd, Nat.reduceMul, Nat.reduceEqDiff, Nat.reduceLT, Nat.reduceLeDiff, ↓reduceIte, implies_true, decide_true, decide_false, ne_eq, Value.oneCell', Int.reduceToNat, ite_self, beq_self_eq_true, bne_self_eq_false, gt_iff_lt, Int.reduceEq, Int.reduceLT, Int.reduceLE, Int.reduceNe, List.forall_mem_cons, false_implies, forall_const, natS, *]; rfl)) (by refine wkR_row ?_; repeat' (first | exact trivial | refine wkL_c (by decide +kernel) ?_)) | exact Nat.le_of_ble_eq_true (by kernel_rfl)) ?_
        | refine nqif_ways (fun h => ?_) ?_
        | ((first | refine gif_ways (fun h => ?_) (fun h => ?_) | refine cif_ways (fun h => ?_) (fun h => ?_)) <;> (try simp only [decide_eq_true_eq, decide_eq_false_iff_not, Bool.not_eq_true', Bool.not_eq_false', Bool.not_true, Bool.not_false] at h) <;> (try (exfalso; omega)))) <;> (try (simp (disch := omega) only [sx0, sx1, sx2, sx3, sx4, sx5, sx6, isBytes, ATy.isAgg, ATy.known, tyb, Nat.reduceAdd, Nat.reduceMul, Nat.reduceEqDiff, Nat.reduceLT, Nat.reduceLeDiff, ↓reduceIte, implies_true, decide_true, decide_false, ne_eq, Value.oneCell', Int.reduceToNat, ite_self, beq_self_eq_true, bne_self_eq_false, gt_iff_lt, Int.reduceEq, Int.reduceLT, Int.reduceLE, Int.reduceNe, List.forall_mem_cons, false_implies, forall_const, *])))))
        all_goals simp only [sxc, sx6, z0, p0, Nat.reduceEqDiff, ↓reduceIte, AV.ex.injEq, Value.bool.injEq, Value.int.injEq, Value.string.injEq, List.all_append, List.map_append, Tryd.f20, *]
theorem RAdd_con (a b : Int) : Con Tryd.prog Ctx 21 [.ex (.int .i64 a), .ex (.int .i64 b)] (.val (.tup [.ex (.int .i64 (addV a b)), .ex (.int .i64 (addE a b))])) := by
  refine con_val base Tryd.func21 rfl rfl (by kernel_rfl) (Nat.le_of_ble_eq_true rfl) ?_
  rw [init_eq]
  cases h1 : valid3 a with
  | false =>
    obtain ⟨r1, r2⟩ := add_arg (b := b) (.inl h1)
    (repeat' (first
    | refine awp_seq ?_
    | refine awp_block ?_
    | (refine awp_ret ?_; simp only [then_ret, block_ret, end_ret])
    | ((first
        | refine call_val (by first | (simp only [sxc, sx6, z0, p0, Nat.reduceEqDiff, ↓reduceIte, AV.ex.injEq, Value.bool.injEq, Value.int.injEq, Value.string.injEq, List.all_append, List.map_append]; (try rfl); done) | (simp only [sxc, sx6, z0, p0, Nat.reduceEqDiff, ↓reduceIte, AV.ex.injEq, Value.bool.injEq, Value.int.injEq, Value.string.injEq, List.all_append, List.map_append, *]; (try rfl); done)) (RValid_con a) ?_
        | refine call_val (by first | (simp only [sxc, sx6, z0, p0, Nat.reduceEqDiff, ↓reduceIte, AV.ex.injEq, Value.bool.injEq, Value.int.injEq, Value.string.injEq, List.all_append, List.map_append]; (try rfl); done) | (simp only [sxc, sx6, z0, p0, Nat.reduceEqDiff, ↓reduceIte, AV.ex.injEq, Value.bool.injEq, Value.int.injEq, Value.string.injEq, List.all_append, List.map_append, *]; (try rfl); done)) (RValid_con b) ?_
        | refine vplain ?_
        | refine vdraws (by kernel_rfl) ?_
        | refine vbuildS (by simp only [tyb, elemOf_s]) (by simp only [tyb, elemOf_s, List.length_cons, List.length_nil, List.all_cons, List.all_nil, Value.oneCell', Bool.and_self, Nat.reduceAdd, Nat.reduceMul, Nat.reduceLeDiff, Nat.reduceLT, true_and, and_true, and_self, Nat.lt_add_one, Nat.zero_mul, Nat.zero_le, Nat.one_mul]) ?_
        | refine vcond ?_
        | refine awp_exit ?_
        | refine awp_skip ?_
        | refine And.intro (by first | omega | assumption | exact setOk_ge (by decide +kernel) | exact setOk_late (by decide +kernel) (by (simp (disch := omega) only [sx0, sx1, sx2, sx3, sx4, sx5, sx6, isBytes, ATy.isAgg, ATy.known, tyb, Nat.reduceAdd, Nat.reduceMul, Nat.reduceEqDiff, Nat.reduceLT, Nat.reduceLeDiff, ↓reduceIte, implies_true, decide_true, decide_false, ne_eq, Value.oneCell', Int.reduceToNat, ite_self, beq_self_eq_true, bne_self_eq_false, gt_iff_lt, Int.reduceEq, Int.reduceLT, Int.reduceLE, Int.reduceNe, List.forall_mem_cons, false_implies, forall_const, natS, *]; rfl)) (by refine wkR_row ?_; repeat' (first | exact trivial | refine wkL_c (by decide +kernel) ?_)) | exact Nat.le_of_ble_eq_true (by kernel_rfl)) ?_
        | refine nqif_ways (fun h => ?_) ?_
        | ((first | refine gif_ways (fun h => ?_) (fun h => ?_) | refine cif_ways (fun h => ?_) (fun h => ?_)) <;> (try simp only [decide_eq_true_eq, decide_eq_false_iff_not, Bool.not_eq_true', Bool.not_eq_false', Bool.not_true, Bool.not_false] at h) <;> (try (exfalso; omega)))) <;> (try (simp (disch := omega) only [sx0, sx1, sx2, sx3, sx4, sx5, sx6, isBytes, ATy.isAgg, ATy.known, tyb, Nat.reduceAdd, Nat.reduceMul, Nat.reduceEqDiff, Nat.reduceLT, Nat.reduceLeDiff, ↓reduceIte, implies_true, decide_true, decide_false, ne_eq, Value.oneCell', Int.reduceToNat, ite_self, beq_self_eq_true, bne_self_eq_false, gt_iff_lt, Int.reduceEq, Int.reduceLT, Int.reduceLE, Int.reduceNe, List.forall_mem_cons, false_implies, forall_const, *])))))
    all_goals simp only [sxc, sx6, z0, p0, Nat.reduceEqDiff, ↓reduceIte, AV.ex.injEq, Value.bool.injEq, Value.int.injEq, Value.string.injEq, List.all_append, List.map_append, Tryd.f21, *]
  | true => cases h2 : valid3 b with
    | false =>
      obtain ⟨r1, r2⟩ := add_arg (a := a) (.inr h2)
      (repeat' (first
    | refine awp_seq ?_
    | refine awp_block ?_
    | (refine awp_ret ?_; simp only [then_ret, block_ret, end_ret])
    | ((first
        | refine call_val (by first | (simp only [sxc, sx6, z0, p0, Nat.reduceEqDiff, ↓reduceIte, AV.ex.injEq, Value.bool.injEq, Value.int.injEq, Value.string.injEq, List.all_append, List.map_append]; (try rfl); done) | (simp only [sxc, sx6, z0, p0, Nat.reduceEqDiff, ↓reduceIte, AV.ex.injEq, Value.bool.injEq, Value.int.injEq, Value.string.injEq, List.all_append, List.map_append, *]; (try rfl); done)) (RValid_con a) ?_
        | refine call_val (by first | (simp only [sxc, sx6, z0, p0, Nat.reduceEqDiff, ↓reduceIte, AV.ex.injEq, Value.bool.injEq, Value.int.injEq, Value.string.injEq, List.all_append, List.map_append]; (try rfl); done) | (simp only [sxc, sx6, z0, p0, Nat.reduceEqDiff, ↓reduceIte, AV.ex.injEq, Value.bool.injEq, Value.int.injEq, Value.string.injEq, List.all_append, List.map_append, *]; (try rfl); done)) (RValid_con b) ?_
        | refine vplain ?_
        | refine vdraws (by kernel_rfl) ?_
        | refine vbuildS (by simp only [tyb, elemOf_s]) (by simp only [tyb, elemOf_s, List.length_cons, List.length_nil, List.all_cons, List.all_nil, Value.oneCell', Bool.and_self, Nat.reduceAdd, Nat.reduceMul, Nat.reduceLeDiff, Nat.reduceLT, true_and, and_true, and_self, Nat.lt_add_one, Nat.zero_mul, Nat.zero_le, Nat.one_mul]) ?_
        | refine vcond ?_
        | refine awp_exit ?_
        | refine awp_skip ?_
        | refine And.intro (by first | omega | assumption | exact setOk_ge (by decide +kernel) | exact setOk_late (by decide +kernel) (by (simp (disch := omega) only [sx0, sx1, sx2, sx3, sx4, sx5, sx6, isBytes, ATy.isAgg, ATy.known, tyb, Nat.reduceAdd, Nat.reduceMul, Nat.reduceEqDiff, Nat.reduceLT, Nat.reduceLeDiff, ↓reduceIte, implies_true, decide_true, decide_false, ne_eq, Value.oneCell', Int.reduceToNat, ite_self, beq_self_eq_true, bne_self_eq_false, gt_iff_lt, Int.reduceEq, Int.reduceLT, Int.reduceLE, Int.reduceNe, List.forall_mem_cons, false_implies, forall_const, natS, *]; rfl)) (by refine wkR_row ?_; repeat' (first | exact trivial | refine wkL_c (by decide +kernel) ?_)) | exact Nat.le_of_ble_eq_true (by kernel_rfl)) ?_
        | refine nqif_ways (fun h => ?_) ?_
        | ((first | refine gif_ways (fun h => ?_) (fun h => ?_) | refine cif_ways (fun h => ?_) (fun h => ?_)) <;> (try simp only [decide_eq_true_eq, decide_eq_false_iff_not, Bool.not_eq_true', Bool.not_eq_false', Bool.not_true, Bool.not_false] at h) <;> (try (exfalso; omega)))) <;> (try (simp (disch := omega) only [sx0, sx1, sx2, sx3, sx4, sx5, sx6, isBytes, ATy.isAgg, ATy.known, tyb, Nat.reduceAdd, Nat.reduceMul, Nat.reduceEqDiff, Nat.reduceLT, Nat.reduceLeDiff, ↓reduceIte, implies_true, decide_true, decide_false, ne_eq, Value.oneCell', Int.reduceToNat, ite_self, beq_self_eq_true, bne_self_eq_false, gt_iff_lt, Int.reduceEq, Int.reduceLT, Int.reduceLE, Int.reduceNe, List.forall_mem_cons, false_implies, forall_const, *])))))
      all_goals simp only [sxc, sx6, z0, p0, Nat.reduceEqDiff, ↓reduceIte, AV.ex.injEq, Value.bool.injEq, Value.int.injEq, Value.string.injEq, List.all_append, List.map_append, Tryd.f21, *]
    | true =>
      obtain ⟨a1, a2⟩ := valid3_iff.1 h1
      obtain ⟨b1, b2⟩ := valid3_iff.1 h2
      cases h3 : valid3 (a + b) with
      | false =>
        obtain ⟨r1, r2⟩ := add_over h1 h2 h3
        (repeat' (first
    | refine awp_seq ?_
    | refine awp_block ?_
    | (refine awp_ret ?_; simp only [then_ret, block_ret, end_ret])
    | ((first
        | refine call_val (by first | (simp only [sxc, sx6, z0, p0, Nat.reduceEqDiff, ↓reduceIte, AV.ex.injEq, Value.bool.injEq, Value.int.injEq, Value.string.injEq, List.all_append, List.map_append]; (try rfl); done) | (simp only [sxc, sx6, z0, p0, Nat.reduceEqDiff, ↓reduceIte, AV.ex.injEq, Value.bool.injEq, Value.int.injEq, Value.string.injEq, List.all_append, List.map_append, *]; (try rfl); done)) (RValid_con a) ?_
        | refine call_val (by first | (simp only [sxc, sx6, z0, p0, Nat.reduceEqDiff, ↓reduceIte, AV.ex.injEq, Value.bool.injEq, Value.int.injEq, Value.string.injEq, List.all_append, List.map_append]; (try rfl); done) | (simp only [sxc, sx6, z0, p0, Nat.reduceEqDiff, ↓reduceIte, AV.ex.injEq, Value.bool.injEq, Value.int.injEq, Value.string.injEq, List.all_append, List.map_append, *]; (try rfl); done)) (RValid_con b) ?_
        | refine call_val (by first | (simp only [sxc, sx6, z0, p0, Nat.reduceEqDiff, ↓reduceIte, AV.ex.injEq, Value.bool.injEq, Value.int.injEq, Value.string.injEq, List.all_append, List.map_append]; (try rfl); done) | (simp only [sxc, sx6, z0, p0, Nat.reduceEqDiff, ↓reduceIte, AV.ex.injEq, Value.bool.injEq, Value.int.injEq, Value.string.injEq, List.all_append, List.map_append, *]; (try rfl); done)) (RValid_con (a + b)) ?_
        | refine vplain ?_
        | refine vdraws (by kernel_rfl) ?_
        | refine vbuildS (by simp only [tyb, elemOf_s]) (by simp only [tyb, elemOf_s, List.length_cons, List.length_nil, List.all_cons, List.all_nil, Value.oneCell', Bool.and_self, Nat.reduceAdd, Nat.reduceMul, Nat.reduceLeDiff, Nat.reduceLT, true_and, and_true, and_self, Nat.lt_add_one, Nat.zero_mul, Nat.zero_le, Nat.one_mul]) ?_
        | refine vcond ?_
        | refine awp_exit ?_
        | refine awp_skip ?_
        | refine And.intro (by first | omega | assumption | exact setOk_ge (by decide +kernel) | exact setOk_late (by decide +kernel) (by (simp (disch := omega) only [sx0, sx1, sx2, sx3, sx4, sx5, sx6, isBytes, ATy.isAgg, ATy.known, tyb, Nat.reduceAdd, Nat.reduceMul, Nat.reduceEqDiff, Nat.reduceLT, Nat.reduceLeDiff, ↓reduceIte, implies_true, decide_true, decide_false, ne_eq, Value.oneCell', Int.reduceToNat, ite_self, beq_self_eq_true, bne_self_eq_false, gt_iff_lt, Int.reduceEq, Int.reduceLT, Int.reduceLE, Int.reduceNe, List.forall_mem_cons, false_implies, forall_const, natS, *]; rfl)) (by refine wkR_row ?_; repeat' (first | exact trivial | refine wkL_c (by decide +kernel) ?_)) | exact Nat.le_of_ble_eq_true (by kernel_rfl)) ?_
        | refine nqif_ways (fun h => ?_) ?_
        | ((first | refine gif_ways (fun h => ?_) (fun h => ?_) | refine cif_ways (fun h => ?_) (fun h => ?_)) <;> (try simp only [decide_eq_true_eq, decide_eq_false_iff_not, Bool.not_eq_true', Bool.not_eq_false', Bool.not_true, Bool.not_false] at h) <;> (try (exfalso; omega)))) <;> (try (simp (disch := omega) only [sx0, sx1, sx2, sx3, sx4, sx5, sx6, isBytes, ATy.isAgg, ATy.known, tyb, Nat.reduceAdd, Nat.reduceMul, Nat.reduceEqDiff, Nat.reduceLT, Nat.reduceLeDiff, ↓reduceIte, implies_true, decide_true, decide_false, ne_eq, Value.oneCell', Int.reduceToNat, ite_self, beq_self_eq_true, bne_self_eq_false, gt_iff_lt, Int.reduceEq, Int.reduceLT, Int.reduceLE, Int.reduceNe, List.forall_mem_cons, false_implies, forall_const, *])))))
        all_goals simp only [sxc, sx6, z0, p0, Nat.reduceEqDiff, ↓reduceIte, AV.ex.injEq, Value.bool.injEq, Value.int.injEq, Value.string.injEq, List.all_append, List.map_append, Tryd.f21, *]
      | true =>
        obtain ⟨r1, r2⟩ := add_ok h1 h2 h3
        (repeat' (first
    | refine awp_seq ?_
    | refine awp_block ?_
    | (refine awp_ret ?_; simp only [then_ret, block_ret, end_ret])
    | ((first
        | refine call_val (by first | (simp only [sxc, sx6, z0, p0, Nat.reduceEqDiff, ↓reduceIte, AV.ex.injEq, Value.bool.injEq, Value.int.injEq, Value.string.injEq, List.all_append, List.map_append]; (try rfl); done) | (simp only [sxc, sx6, z0, p0, Nat.reduceEqDiff, ↓reduceIte, AV.ex.injEq, Value.bool.injEq, Value.int.injEq, Value.string.injEq, List.all_append, List.map_append, *]; (try rfl); done)) (RValid_con a) ?_
        | refine call_val (by first | (simp only [sxc, sx6, z0, p0, Nat.reduceEqDiff, ↓reduceIte, AV.ex.injEq, Value.bool.injEq, Value.int.injEq, Value.string.injEq, List.all_append, List.map_append]; (try rfl); done) | (simp only [sxc, sx6, z0, p0, Nat.reduceEqDiff, ↓reduceIte, AV.ex.injEq, Value.bool.injEq, Value.int.injEq, Value.string.injEq, List.all_append, List.map_append, *]; (try rfl); done)) (RValid_con b) ?_
        | refine call_val (by first | (simp only [sxc, sx6, z0, p0, Nat.reduceEqDiff, ↓reduceIte, AV.ex.injEq, Value.bool.injEq, Value.int.injEq, Value.string.injEq, List.all_append, List.map_append]; (try rfl); done) | (simp only [sxc, sx6, z0, p0, Nat.reduceEqDiff, ↓reduceIte, AV.ex.injEq, Value.bool.injEq, Value.int.injEq, Value.string.injEq, List.all_append, List.map_append, *]; (try rfl); done)) (RValid_con (a + b)) ?_
        | refine vplain ?_
        | refine vdraws (by kernel_rfl) ?_
        | refine vbuildS (by simp only [tyb, elemOf_s]) (by simp only [tyb, elemOf_s, List.length_cons, List.length_nil, List.all_cons, List.all_nil, Value.oneCell', Bool.and_self, Nat.reduceAdd, Nat.reduceMul, Nat.reduceLeDiff, Nat.reduceLT, true_and, and_true, and_self, Nat.lt_add_one, Nat.zero_mul, Nat.zero_le, Nat.one_mul]) ?_
        | refine vcond ?_
        | refine awp_exit ?_
        | refine awp_skip ?_
        | refine And.intro (by first | omega | assumption | exact setOk_ge (by decide +kernel) | exact setOk_late (by decide +kernel) (by (simp (disch := omega) only [sx0, sx1, sx2, sx3, sx4, sx5, sx6, isBytes, ATy.isAgg, ATy.known, tyb, Nat.reduceAdd, Nat.reduceMul, Nat.reduceEqDiff, Nat.reduceLT, Nat.reduceLeDiff, ↓reduceIte, implies_true, decide_true, decide_false, ne_eq, Value.oneCell', Int.reduceToNat, ite_self, beq_self_eq_true, bne_self_eq_false, gt_iff_lt, Int.reduceEq, Int.reduceLT, Int.reduceLE, Int.reduceNe, List.forall_mem_cons, false_implies, forall_const, natS, *]; rfl)) (by refine wkR_row ?_; repeat' (first | exact trivial | refine wkL_c (by decide +kernel) ?_)) | exact Nat.le_of_ble_eq_true (by kernel_rfl)) ?_
        | refine nqif_ways (fun h => ?_) ?_
        | ((first | refine gif_ways (fun h => ?_) (fun h => ?_) | refine cif_ways (fun h => ?_) (fun h => ?_)) <;> (try simp only [decide_eq_true_eq, decide_eq_false_iff_not, Bool.not_eq_true', Bool.not_eq_false', Bool.not_true, Bool.not_false] at h) <;> (try (exfalso; omega)))) <;> (try (simp (disch := omega) only [sx0, sx1, sx2, sx3, sx4, sx5, sx6, isBytes, ATy.isAgg, ATy.known, tyb, Nat.reduceAdd, Nat.reduceMul, Nat.reduceEqDiff, Nat.reduceLT, Nat.reduceLeDiff, ↓reduceIte, implies_true, decide_true, decide_false, ne_eq, Value.oneCell', Int.reduceToNat, ite_self, beq_self_eq_true, bne_self_eq_false, gt_iff_lt, Int.reduceEq, Int.reduceLT, Int.reduceLE, Int.reduceNe, List.forall_mem_cons, false_implies, forall_const, *])))))
        all_goals simp only [sxc, sx6, z0, p0, Nat.reduceEqDiff, ↓reduceIte, AV.ex.injEq, Value.bool.injEq, Value.int.injEq, Value.string.injEq, List.all_append, List.map_append, Tryd.f21, *]

/-- Numbers in a row. -/
def ints (l : List Int) : List (List AV) := l.map fun n => [.ex (.int .i64 n)]
theorem ints_len (l : List Int) : (ints l).length = l.length := by simp [ints]
theorem ints_app1 (a : List Int) (n : Int) : ints (a ++ [n]) = ints a ++ [[.ex (.int .i64 n)]] := by simp [ints]
theorem ints_get {l : List Int} {k : Nat} {n : Int} (e : l[k]? = some n) : (ints l)[k]? = some [.ex (.int .i64 n)] := by rw [ints, List.getElem?_map, e]; rfl
theorem ints_p0 (l : List Int) : ((ints l).all (·.all p0)) = true := by
  rw [List.all_eq_true]
  intro x hx
  simp only [ints, List.mem_map] at hx
  obtain ⟨m, _, rfl⟩ := hx
  rfl
theorem ints_z0 (l : List Int) : (ints l).map (·.map z0) = ints l := by
  rw [ints, List.map_map]
  exact List.map_congr_left fun m _ => rfl
theorem valid_room {v x : Int} {k : Nat} (h1 : -1000000000000 * k ≤ v) (h2 : v ≤ 1000000000000 * k) (hx : valid3 x = true) (hk : k < 4096) : -1000000000000 * ((k + 1 : Nat) : Int) ≤ v + x ∧ v + x ≤ 1000000000000 * ((k + 1 : Nat) : Int) ∧ -9223372036854775808 ≤ v + x ∧ v + x ≤ 9223372036854775807 := by
  rw [valid3_iff] at hx
  omega
theorem Sum_con (l : List Int) (hl : l.length ≤ 9223372036854775807) : Con Tryd.prog Ctx 11 [.sl (ints l)] (.val (.tup [.ex (.int .i64 (sumV l)), .ex (.int .i64 (sumE l))])) := by
  refine con_val base Tryd.func11 rfl rfl (by kernel_rfl) (Nat.le_of_ble_eq_true rfl) ?_
  rw [init_eq]
  have q1 := ints_len l
  by_cases h1 : l.length ≤ 4096
  · (repeat' (first
    | refine awp_seq ?_
    | refine awp_block ?_
    | (refine awp_ret ?_; simp only [then_ret, block_ret, end_ret])
    | ((first
        | refine vplain ?_
        | refine vdraws (by kernel_rfl) ?_
        | refine vbuildS (by simp only [tyb, elemOf_s]) (by simp only [tyb, elemOf_s, List.length_cons, List.length_nil, List.all_cons, List.all_nil, Value.oneCell', Bool.and_self, Nat.reduceAdd, Nat.reduceMul, Nat.reduceLeDiff, Nat.reduceLT, true_and, and_true, and_self, Nat.lt_add_one, Nat.zero_mul, Nat.zero_le, Nat.one_mul]) ?_
        | refine vcond ?_
        | refine awp_exit ?_
        | refine awp_skip ?_
        | refine And.intro (by first | omega | assumption | exact setOk_ge (by decide +kernel) | exact setOk_late (by decide +kernel) (by (simp (disch := omega) only [sx0, sx1, sx2, sx3, sx4, sx5, sx6, isBytes, ATy.isAgg, ATy.known, tyb, Nat.reduceAdd, Nat.reduceMul, Nat.reduceEqDiff, Nat.reduceLT, Nat.reduceLeDiff, ↓reduceIte, implies_true, decide_true, decide_false, ne_eq, Value.oneCell', Int.reduceToNat, ite_self, beq_self_eq_true, bne_self_eq_false, gt_iff_lt, Int.reduceEq, Int.reduceLT, Int.reduceLE, Int.reduceNe, List.forall_mem_cons, false_implies, forall_const, natS, *]; rfl)) (by refine wkR_row ?_; repeat' (first | exact trivial | refine wkL_c (by decide +kernel) ?_)) | exact Nat.le_of_ble_eq_true (by kernel_rfl)) ?_
        | refine nqif_ways (fun h => ?_) ?_
        | ((first | refine gif_ways (fun h => ?_) (fun h => ?_) | refine cif_ways (fun h => ?_) (fun h => ?_)) <;> (try simp only [decide_eq_true_eq, decide_eq_false_iff_not, Bool.not_eq_true', Bool.not_eq_false', Bool.not_true, Bool.not_false] at h) <;> (try (exfalso; omega)))) <;> (try (simp (disch := omega) only [sx0, sx1, sx2, sx3, sx4, sx5, sx6, isBytes, ATy.isAgg, ATy.known, tyb, Nat.reduceAdd, Nat.reduceMul, Nat.reduceEqDiff, Nat.reduceLT, Nat.reduceLeDiff, ↓reduceIte, implies_true, decide_true, decide_false, ne_eq, Value.oneCell', Int.reduceToNat, ite_self, beq_self_eq_true, bne_self_eq_false, gt_iff_lt, Int.reduceEq, Int.reduceLT, Int.reduceLE, Int.reduceNe, List.forall_mem_cons, false_implies, forall_const, *])))))
    refine vloop (fun n tm hp nx => ∃ (k : Nat) (v : Int), n = l.length - k ∧ k ≤ l.length ∧ tm 10 = .sl (ints l) ∧ tm 11 = .ex (.int .i64 l.length) ∧ tm 12 = .ex (.int .i64 k) ∧ tm 4 = .ex (.int .i64 v) ∧ -1000000000000 * (k : Int) ≤ v ∧ v ≤ 1000000000000 * (k : Int) ∧ Hid ((l.take k).all valid3 = true) ∧ Hid ((l.take k).sum = v)) l.length ⟨0, 0, rfl, Nat.zero_le _, by (first | rfl | (simp (disch := omega) only [sx0, sx1, sx2, sx3, sx4, sx5, sx6, isBytes, ATy.isAgg, ATy.known, tyb, Nat.reduceAdd, Nat.reduceMul, Nat.reduceEqDiff, Nat.reduceLT, Nat.reduceLeDiff, ↓reduceIte, implies_true, decide_true, decide_false, ne_eq, Value.oneCell', Int.reduceToNat, ite_self, beq_self_eq_true, bne_self_eq_false, gt_iff_lt, Int.reduceEq, Int.reduceLT, Int.reduceLE, Int.reduceNe, List.forall_mem_cons, false_implies, forall_const, natS, *])), by (first | rfl | (simp (disch := omega) only [sx0, sx1, sx2, sx3, sx4, sx5, sx6, isBytes, ATy.isAgg, ATy.known, tyb, Nat.reduceAdd, Nat.reduceMul, Nat.reduceEqDiff, Nat.reduceLT, Nat.reduceLeDiff, ↓reduceIte, implies_true, decide_true, decide_false, ne_eq, Value.oneCell', Int.reduceToNat, ite_self, beq_self_eq_true, bne_self_eq_false, gt_iff_lt, Int.reduceEq, Int.reduceLT, Int.reduceLE, Int.reduceNe, List.forall_mem_cons, false_implies, forall_const, natS, *])), by (first | rfl | (simp (disch := omega) only [sx0, sx1, sx2, sx3, sx4, sx5, sx6, isBytes, ATy.isAgg, ATy.known, tyb, Nat.reduceAdd, Nat.reduceMul, Nat.reduceEqDiff, Nat.reduceLT, Nat.reduceLeDiff, ↓reduceIte, implies_true, decide_true, decide_false, ne_eq, Value.oneCell', Int.reduceToNat, ite_self, beq_self_eq_true, bne_self_eq_false, gt_iff_lt, Int.reduceEq, Int.reduceLT, Int.reduceLE, Int.reduceNe, List.forall_mem_cons, false_implies, forall_const, natS, *])), by (first | rfl | (simp (disch := omega) only [sx0, sx1, sx2, sx3, sx4, sx5, sx6, isBytes, ATy.isAgg, ATy.known, tyb, Nat.reduceAdd, Nat.reduceMul, Nat.reduceEqDiff, Nat.reduceLT, Nat.reduceLeDiff, ↓reduceIte, implies_true, decide_true, decide_false, ne_eq, Value.oneCell', Int.reduceToNat, ite_self, beq_self_eq_true, bne_self_eq_false, gt_iff_lt, Int.reduceEq, Int.reduceLT, Int.reduceLE, Int.reduceNe, List.forall_mem_cons, false_implies, forall_const, natS, *])), by omega, by omega, Lib.hid rfl, Lib.hid rfl⟩ ?_
    rintro n tm hp nx ⟨k, v, hn, hkl, g10, g11, g12, g4, hv1, hv2, hA, hS⟩
    by_cases hlt : k < l.length
    · have e0 : l[k]? = some l[k] := List.getElem?_eq_getElem hlt
      generalize l[k] = x at e0
      have q4 := ints_get e0
      cases hx : valid3 x with
      | true =>
        obtain ⟨b1, b2, b3, b4⟩ := valid_room hv1 hv2 hx (by omega)
        have n1 := Lib.hid (allv_next e0 hA.out hx)
        have n2 := Lib.hid (show (l.take (k + 1)).sum = v + x by rw [sum_next e0, hS.out])
        clear e0
        (repeat' (first
    | refine awp_seq ?_
    | refine awp_block ?_
    | (refine awp_ret ?_; simp only [then_ret, block_ret, end_ret])
    | ((first
        | refine call_val (by first | (simp only [sxc, sx6, z0, p0, Nat.reduceEqDiff, ↓reduceIte, AV.ex.injEq, Value.bool.injEq, Value.int.injEq, Value.string.injEq, List.all_append, List.map_append]; (try rfl); done) | (simp only [sxc, sx6, z0, p0, Nat.reduceEqDiff, ↓reduceIte, AV.ex.injEq, Value.bool.injEq, Value.int.injEq, Value.string.injEq, List.all_append, List.map_append, *]; (try rfl); done)) (Valid_con x) ?_
        | refine vplain ?_
        | refine vdraws (by kernel_rfl) ?_
        | refine vbuildS (by simp only [tyb, elemOf_s]) (by simp only [tyb, elemOf_s, List.length_cons, List.length_nil, List.all_cons, List.all_nil, Value.oneCell', Bool.and_self, Nat.reduceAdd, Nat.reduceMul, Nat.reduceLeDiff, Nat.reduceLT, true_and, and_true, and_self, Nat.lt_add_one, Nat.zero_mul, Nat.zero_le, Nat.one_mul]) ?_
        | refine vcond ?_
        | refine awp_exit ?_
        | refine awp_skip ?_
        | refine And.intro (by first | omega | assumption | exact setOk_ge (by decide +kernel) | exact setOk_late (by decide +kernel) (by (simp (disch := omega) only [sx0, sx1, sx2, sx3, sx4, sx5, sx6, isBytes, ATy.isAgg, ATy.known, tyb, Nat.reduceAdd, Nat.reduceMul, Nat.reduceEqDiff, Nat.reduceLT, Nat.reduceLeDiff, ↓reduceIte, implies_true, decide_true, decide_false, ne_eq, Value.oneCell', Int.reduceToNat, ite_self, beq_self_eq_true, bne_self_eq_false, gt_iff_lt, Int.reduceEq, Int.reduceLT, Int.reduceLE, Int.reduceNe, List.forall_mem_cons, false_implies, forall_const, natS, *]; rfl)) (by refine wkR_row ?_; repeat' (first | exact trivial | refine wkL_c (by decide +kernel) ?_)) | exact Nat.le_of_ble_eq_true (by kernel_rfl)) ?_
        | refine nqif_ways (fun h => ?_) ?_
        | ((first | refine gif_ways (fun h => ?_) (fun h => ?_) | refine cif_ways (fun h => ?_) (fun h => ?_)) <;> (try simp only [decide_eq_true_eq, decide_eq_false_iff_not, Bool.not_eq_true', Bool.not_eq_false', Bool.not_true, Bool.not_false] at h) <;> (try (exfalso; omega)))) <;> (try (simp (disch := omega) only [sx0, sx1, sx2, sx3, sx4, sx5, sx6, isBytes, ATy.isAgg, ATy.known, tyb, Nat.reduceAdd, Nat.reduceMul, Nat.reduceEqDiff, Nat.reduceLT, Nat.reduceLeDiff, ↓reduceIte, implies_true, decide_true, decide_false, ne_eq, Value.oneCell', Int.reduceToNat, ite_self, beq_self_eq_true, bne_self_eq_false, gt_iff_lt, Int.reduceEq, Int.reduceLT, Int.reduceLE, Int.reduceNe, List.forall_mem_cons, false_implies, forall_const, *])))))
        exact kround_i (l.length - (k + 1)) (by omega) ⟨k + 1, v + x, by omega, by omega, by (first | rfl | (simp (disch := omega) only [sx0, sx1, sx2, sx3, sx4, sx5, sx6, isBytes, ATy.isAgg, ATy.known, tyb, Nat.reduceAdd, Nat.reduceMul, Nat.reduceEqDiff, Nat.reduceLT, Nat.reduceLeDiff, ↓reduceIte, implies_true, decide_true, decide_false, ne_eq, Value.oneCell', Int.reduceToNat, ite_self, beq_self_eq_true, bne_self_eq_false, gt_iff_lt, Int.reduceEq, Int.reduceLT, Int.reduceLE, Int.reduceNe, List.forall_mem_cons, false_implies, forall_const, natS, *])), by (first | rfl | (simp (disch := omega) only [sx0, sx1, sx2, sx3, sx4, sx5, sx6, isBytes, ATy.isAgg, ATy.known, tyb, Nat.reduceAdd, Nat.reduceMul, Nat.reduceEqDiff, Nat.reduceLT, Nat.reduceLeDiff, ↓reduceIte, implies_true, decide_true, decide_false, ne_eq, Value.oneCell', Int.reduceToNat, ite_self, beq_self_eq_true, bne_self_eq_false, gt_iff_lt, Int.reduceEq, Int.reduceLT, Int.reduceLE, Int.reduceNe, List.forall_mem_cons, false_implies, forall_const, natS, *])), by (first | rfl | (simp (disch := omega) only [sx0, sx1, sx2, sx3, sx4, sx5, sx6, isBytes, ATy.isAgg, ATy.known, tyb, Nat.reduceAdd, Nat.reduceMul, Nat.reduceEqDiff, Nat.reduceLT, Nat.reduceLeDiff, ↓reduceIte, implies_true, decide_true, decide_false, ne_eq, Value.oneCell', Int.reduceToNat, ite_self, beq_self_eq_true, bne_self_eq_false, gt_iff_lt, Int.reduceEq, Int.reduceLT, Int.reduceLE, Int.reduceNe, List.forall_mem_cons, false_implies, forall_const, natS, *])), by (first | rfl | (simp (disch := omega) only [sx0, sx1, sx2, sx3, sx4, sx5, sx6, isBytes, ATy.isAgg, ATy.known, tyb, Nat.reduceAdd, Nat.reduceMul, Nat.reduceEqDiff, Nat.reduceLT, Nat.reduceLeDiff, ↓reduceIte, implies_true, decide_true, decide_false, ne_eq, Value.oneCell', Int.reduceToNat, ite_self, beq_self_eq_true, bne_self_eq_false, gt_iff_lt, Int.reduceEq, Int.reduceLT, Int.reduceLE, Int.reduceNe, List.forall_mem_cons, false_implies, forall_const, natS, *])), b1, b2, n1, n2⟩
      | false =>
        obtain ⟨r1, r2⟩ := sum_arg h1 (allv_no e0 hx)
        (repeat' (first
    | refine awp_seq ?_
    | refine awp_block ?_
    | (refine awp_ret ?_; simp only [then_ret, block_ret, end_ret])
    | ((first
        | refine call_val (by first | (simp only [sxc, sx6, z0, p0, Nat.reduceEqDiff, ↓reduceIte, AV.ex.injEq, Value.bool.injEq, Value.int.injEq, Value.string.injEq, List.all_append, List.map_append]; (try rfl); done) | (simp only [sxc, sx6, z0, p0, Nat.reduceEqDiff, ↓reduceIte, AV.ex.injEq, Value.bool.injEq, Value.int.injEq, Value.string.injEq, List.all_append, List.map_append, *]; (try rfl); done)) (Valid_con x) ?_
        | refine vplain ?_
        | refine vdraws (by kernel_rfl) ?_
        | refine vbuildS (by simp only [tyb, elemOf_s]) (by simp only [tyb, elemOf_s, List.length_cons, List.length_nil, List.all_cons, List.all_nil, Value.oneCell', Bool.and_self, Nat.reduceAdd, Nat.reduceMul, Nat.reduceLeDiff, Nat.reduceLT, true_and, and_true, and_self, Nat.lt_add_one, Nat.zero_mul, Nat.zero_le, Nat.one_mul]) ?_
        | refine vcond ?_
        | refine awp_exit ?_
        | refine awp_skip ?_
        | refine And.intro (by first | omega | assumption | exact setOk_ge (by decide +kernel) | exact setOk_late (by decide +kernel) (by (simp (disch := omega) only [sx0, sx1, sx2, sx3, sx4, sx5, sx6, isBytes, ATy.isAgg, ATy.known, tyb, Nat.reduceAdd, Nat.reduceMul, Nat.reduceEqDiff, Nat.reduceLT, Nat.reduceLeDiff, ↓reduceIte, implies_true, decide_true, decide_false, ne_eq, Value.oneCell', Int.reduceToNat, ite_self, beq_self_eq_true, bne_self_eq_false, gt_iff_lt, Int.reduceEq, Int.reduceLT, Int.reduceLE, Int.reduceNe, List.forall_mem_cons, false_implies, forall_const, natS, *]; rfl)) (by refine wkR_row ?_; repeat' (first | exact trivial | refine wkL_c (by decide +kernel) ?_)) | exact Nat.le_of_ble_eq_true (by kernel_rfl)) ?_
        | refine nqif_ways (fun h => ?_) ?_
        | ((first | refine gif_ways (fun h => ?_) (fun h => ?_) | refine cif_ways (fun h => ?_) (fun h => ?_)) <;> (try simp only [decide_eq_true_eq, decide_eq_false_iff_not, Bool.not_eq_true', Bool.not_eq_false', Bool.not_true, Bool.not_false] at h) <;> (try (exfalso; omega)))) <;> (try (simp (disch := omega) only [sx0, sx1, sx2, sx3, sx4, sx5, sx6, isBytes, ATy.isAgg, ATy.known, tyb, Nat.reduceAdd, Nat.reduceMul, Nat.reduceEqDiff, Nat.reduceLT, Nat.reduceLeDiff, ↓reduceIte, implies_true, decide_true, decide_false, ne_eq, Value.oneCell', Int.reduceToNat, ite_self, beq_self_eq_true, bne_self_eq_false, gt_iff_lt, Int.reduceEq, Int.reduceLT, Int.reduceLE, Int.reduceNe, List.forall_mem_cons, false_implies, forall_const, *])))))
        all_goals simp only [sxc, sx6, z0, p0, Nat.reduceEqDiff, ↓reduceIte, AV.ex.injEq, Value.bool.injEq, Value.int.injEq, Value.string.injEq, List.all_append, List.map_append, Tryd.f11, *]
    · obtain ⟨r1, r2⟩ := sum_end h1 (by omega) hA.out hS.out
      cases hx : valid3 v with
      | true =>
        rw [if_pos hx] at r1 r2
        (repeat' (first
    | refine awp_seq ?_
    | refine awp_block ?_
    | (refine awp_ret ?_; simp only [then_ret, block_ret, end_ret])
    | ((first
        | refine call_val (by first | (simp only [sxc, sx6, z0, p0, Nat.reduceEqDiff, ↓reduceIte, AV.ex.injEq, Value.bool.injEq, Value.int.injEq, Value.string.injEq, List.all_append, List.map_append]; (try rfl); done) | (simp only [sxc, sx6, z0, p0, Nat.reduceEqDiff, ↓reduceIte, AV.ex.injEq, Value.bool.injEq, Value.int.injEq, Value.string.injEq, List.all_append, List.map_append, *]; (try rfl); done)) (Valid_con v) ?_
        | refine vplain ?_
        | refine vdraws (by kernel_rfl) ?_
        | refine vbuildS (by simp only [tyb, elemOf_s]) (by simp only [tyb, elemOf_s, List.length_cons, List.length_nil, List.all_cons, List.all_nil, Value.oneCell', Bool.and_self, Nat.reduceAdd, Nat.reduceMul, Nat.reduceLeDiff, Nat.reduceLT, true_and, and_true, and_self, Nat.lt_add_one, Nat.zero_mul, Nat.zero_le, Nat.one_mul]) ?_
        | refine vcond ?_
        | refine awp_exit ?_
        | refine awp_skip ?_
        | refine And.intro (by first | omega | assumption | exact setOk_ge (by decide +kernel) | exact setOk_late (by decide +kernel) (by (simp (disch := omega) only [sx0, sx1, sx2, sx3, sx4, sx5, sx6, isBytes, ATy.isAgg, ATy.known, tyb, Nat.reduceAdd, Nat.reduceMul, Nat.reduceEqDiff, Nat.reduceLT, Nat.reduceLeDiff, ↓reduceIte, implies_true, decide_true, decide_false, ne_eq, Value.oneCell', Int.reduceToNat, ite_self, beq_self_eq_true, bne_self_eq_false, gt_iff_lt, Int.reduceEq, Int.reduceLT, Int.reduceLE, Int.reduceNe, List.forall_mem_cons, false_implies, forall_const, natS, *]; rfl)) (by refine wkR_row ?_; repeat' (first | exact trivial | refine wkL_c (by decide +kernel) ?_)) | exact Nat.le_of_ble_eq_true (by kernel_rfl)) ?_
        | refine nqif_ways (fun h => ?_) ?_
        | ((first | refine gif_ways (fun h => ?_) (fun h => ?_) | refine cif_ways (fun h => ?_) (fun h => ?_)) <;> (try simp only [decide_eq_true_eq, decide_eq_false_iff_not, Bool.not_eq_true', Bool.not_eq_false', Bool.not_true, Bool.not_false] at h) <;> (try (exfalso; omega)))) <;> (try (simp (disch := omega) only [sx0, sx1, sx2, sx3, sx4, sx5, sx6, isBytes, ATy.isAgg, ATy.known, tyb, Nat.reduceAdd, Nat.reduceMul, Nat.reduceEqDiff, Nat.reduceLT, Nat.reduceLeDiff, ↓reduceIte, implies_true, decide_true, decide_false, ne_eq, Value.oneCell', Int.reduceToNat, ite_self, beq_self_eq_true, bne_self_eq_false, gt_iff_lt, Int.reduceEq, Int.reduceLT, Int.reduceLE, Int.reduceNe, List.forall_mem_cons, false_implies, forall_const, *])))))
        all_goals simp only [sxc, sx6, z0, p0, Nat.reduceEqDiff, ↓reduceIte, AV.ex.injEq, Value.bool.injEq, Value.int.injEq, Value.string.injEq, List.all_append, List.map_append, Tryd.f11, *]
      | false =>
        rw [if_neg (by rw [hx]; simp)] at r1 r2
        (repeat' (first
    | refine awp_seq ?_
    | refine awp_block ?_
    | (refine awp_ret ?_; simp only [then_ret, block_ret, end_ret])
    | ((first
        | refine call_val (by first | (simp only [sxc, sx6, z0, p0, Nat.reduceEqDiff, ↓reduceIte, AV.ex.injEq, Value.bool.injEq, Value.int.injEq, Value.string.injEq, List.all_append, List.map_append]; (try rfl); done) | (simp only [sxc, sx6, z0, p0, Nat.reduceEqDiff, ↓reduceIte, AV.ex.injEq, Value.bool.injEq, Value.int.injEq, Value.string.injEq, List.all_append, List.map_append, *]; (try rfl); done)) (Valid_con v) ?_
        | refine vplain ?_
        | refine vdraws (by kernel_rfl) ?_
        | refine vbuildS (by simp only [tyb, elemOf_s]) (by simp only [tyb, elemOf_s, List.length_cons, List.length_nil, List.all_cons, List.all_nil, Value.oneCell', Bool.and_self, Nat.reduceAdd, Nat.reduceMul, Nat.reduceLeDiff, Nat.reduceLT, true_and, and_true, and_self, Nat.lt_add_one, Nat.zero_mul, Nat.zero_le, Nat.one_mul]) ?_
        | refine vcond ?_
        | refine awp_exit ?_
        | refine awp_skip ?_
        | refine And.intro (by first | omega | assumption | exact setOk_ge (by decide +kernel) | exact setOk_late (by decide +kernel) (by (simp (disch := omega) only [sx0, sx1, sx2, sx3, sx4, sx5, sx6, isBytes, ATy.isAgg, ATy.known, tyb, Nat.reduceAdd, Nat.reduceMul, Nat.reduceEqDiff, Nat.reduceLT, Nat.reduceLeDiff, ↓reduceIte, implies_true, decide_true, decide_false, ne_eq, Value.oneCell', Int.reduceToNat, ite_self, beq_self_eq_true, bne_self_eq_false, gt_iff_lt, Int.reduceEq, Int.reduceLT, Int.reduceLE, Int.reduceNe, List.forall_mem_cons, false_implies, forall_const, natS, *]; rfl)) (by refine wkR_row ?_; repeat' (first | exact trivial | refine wkL_c (by decide +kernel) ?_)) | exact Nat.le_of_ble_eq_true (by kernel_rfl)) ?_
        | refine nqif_ways (fun h => ?_) ?_
        | ((first | refine gif_ways (fun h => ?_) (fun h => ?_) | refine cif_ways (fun h => ?_) (fun h => ?_)) <;> (try simp only [decide_eq_true_eq, decide_eq_false_iff_not, Bool.not_eq_true', Bool.not_eq_false', Bool.not_true, Bool.not_false] at h) <;> (try (exfalso; omega)))) <;> (try (simp (disch := omega) only [sx0, sx1, sx2, sx3, sx4, sx5, sx6, isBytes, ATy.isAgg, ATy.known, tyb, Nat.reduceAdd, Nat.reduceMul, Nat.reduceEqDiff, Nat.reduceLT, Nat.reduceLeDiff, ↓reduceIte, implies_true, decide_true, decide_false, ne_eq, Value.oneCell', Int.reduceToNat, ite_self, beq_self_eq_true, bne_self_eq_false, gt_iff_lt, Int.reduceEq, Int.reduceLT, Int.reduceLE, Int.reduceNe, List.forall_mem_cons, false_implies, forall_const, *])))))
        all_goals simp only [sxc, sx6, z0, p0, Nat.reduceEqDiff, ↓reduceIte, AV.ex.injEq, Value.bool.injEq, Value.int.injEq, Value.string.injEq, List.all_append, List.map_append, Tryd.f11, *]
  · obtain ⟨r1, r2⟩ := sum_many (l := l) (by omega)
    (repeat' (first
    | refine awp_seq ?_
    | refine awp_block ?_
    | (refine awp_ret ?_; simp only [then_ret, block_ret, end_ret])
    | ((first
        | refine vplain ?_
        | refine vdraws (by kernel_rfl) ?_
        | refine vbuildS (by simp only [tyb, elemOf_s]) (by simp only [tyb, elemOf_s, List.length_cons, List.length_nil, List.all_cons, List.all_nil, Value.oneCell', Bool.and_self, Nat.reduceAdd, Nat.reduceMul, Nat.reduceLeDiff, Nat.reduceLT, true_and, and_true, and_self, Nat.lt_add_one, Nat.zero_mul, Nat.zero_le, Nat.one_mul]) ?_
        | refine vcond ?_
        | refine awp_exit ?_
        | refine awp_skip ?_
        | refine And.intro (by first | omega | assumption | exact setOk_ge (by decide +kernel) | exact setOk_late (by decide +kernel) (by (simp (disch := omega) only [sx0, sx1, sx2, sx3, sx4, sx5, sx6, isBytes, ATy.isAgg, ATy.known, tyb, Nat.reduceAdd, Nat.reduceMul, Nat.reduceEqDiff, Nat.reduceLT, Nat.reduceLeDiff, ↓reduceIte, implies_true, decide_true, decide_false, ne_eq, Value.oneCell', Int.reduceToNat, ite_self, beq_self_eq_true, bne_self_eq_false, gt_iff_lt, Int.reduceEq, Int.reduceLT, Int.reduceLE, Int.reduceNe, List.forall_mem_cons, false_implies, forall_const, natS, *]; rfl)) (by refine wkR_row ?_; repeat' (first | exact trivial | refine wkL_c (by decide +kernel) ?_)) | exact Nat.le_of_ble_eq_true (by kernel_rfl)) ?_
        | refine nqif_ways (fun h => ?_) ?_
        | ((first | refine gif_ways (fun h => ?_) (fun h => ?_) | refine cif_ways (fun h => ?_) (fun h => ?_)) <;> (try simp only [decide_eq_true_eq, decide_eq_false_iff_not, Bool.not_eq_true', Bool.not_eq_false', Bool.not_true, Bool.not_false] at h) <;> (try (exfalso; omega)))) <;> (try (simp (disch := omega) only [sx0, sx1, sx2, sx3, sx4, sx5, sx6, isBytes, ATy.isAgg, ATy.known, tyb, Nat.reduceAdd, Nat.reduceMul, Nat.reduceEqDiff, Nat.reduceLT, Nat.reduceLeDiff, ↓reduceIte, implies_true, decide_true, decide_false, ne_eq, Value.oneCell', Int.reduceToNat, ite_self, beq_self_eq_true, bne_self_eq_false, gt_iff_lt, Int.reduceEq, Int.reduceLT, Int.reduceLE, Int.reduceNe, List.forall_mem_cons, false_implies, forall_const, *])))))
    all_goals simp only [sxc, sx6, z0, p0, Nat.reduceEqDiff, ↓reduceIte, AV.ex.injEq, Value.bool.injEq, Value.int.injEq, Value.string.injEq, List.all_append, List.map_append, Tryd.f11, *]
theorem RSum_con (l : List Int) (hl : l.length ≤ 9223372036854775807) : Con Tryd.prog Ctx 12 [.sl (ints l)] (.val (.tup [.ex (.int .i64 (sumV l)), .ex (.int .i64 (sumE l))])) := by
  refine con_val base Tryd.func12 rfl rfl (by kernel_rfl) (Nat.le_of_ble_eq_true rfl) ?_
  rw [init_eq]
  have q1 := ints_len l
  by_cases h1 : l.length ≤ 4096
  · (repeat' (first
    | refine awp_seq ?_
    | refine awp_block ?_
    | (refine awp_ret ?_; simp only [then_ret, block_ret, end_ret])
    | ((first
        | refine vplain ?_
        | refine vdraws (by kernel_rfl) ?_
        | refine vbuildS (by simp only [tyb, elemOf_s]) (by simp only [tyb, elemOf_s, List.length_cons, List.length_nil, List.all_cons, List.all_nil, Value.oneCell', Bool.and_self, Nat.reduceAdd, Nat.reduceMul, Nat.reduceLeDiff, Nat.reduceLT, true_and, and_true, and_self, Nat.lt_add_one, Nat.zero_mul, Nat.zero_le, Nat.one_mul]) ?_
        | refine vcond ?_
        | refine awp_exit ?_
        | refine awp_skip ?_
        | refine And.intro (by first | omega | assumption | exact setOk_ge (by decide +kernel) | exact setOk_late (by decide +kernel) (by (simp (disch := omega) only [sx0, sx1, sx2, sx3, sx4, sx5, sx6, isBytes, ATy.isAgg, ATy.known, tyb, Nat.reduceAdd, Nat.reduceMul, Nat.reduceEqDiff, Nat.reduceLT, Nat.reduceLeDiff, ↓reduceIte, implies_true, decide_true, decide_false, ne_eq, Value.oneCell', Int.reduceToNat, ite_self, beq_self_eq_true, bne_self_eq_false, gt_iff_lt, Int.reduceEq, Int.reduceLT, Int.reduceLE, Int.reduceNe, List.forall_mem_cons, false_implies, forall_const, natS, *]; rfl)) (by refine wkR_row ?_; repeat' (first | exact trivial | refine wkL_c (by decide +kernel) ?_)) | exact Nat.le_of_ble_eq_true (by kernel_rfl)) ?_
        | refine nqif_ways (fun h => ?_) ?_
        | ((first | refine gif_ways (fun h => ?_) (fun h => ?_) | refine cif_ways (fun h => ?_) (fun h => ?_)) <;> (try simp only [decide_eq_true_eq, decide_eq_false_iff_not, Bool.not_eq_true', Bool.not_eq_false', Bool.not_true, Bool.not_false] at h) <;> (try (exfalso; omega)))) <;> (try (simp (disch := omega) only [sx0, sx1, sx2, sx3, sx4, sx5, sx6, isBytes, ATy.isAgg, ATy.known, tyb, Nat.reduceAdd, Nat.reduceMul, Nat.reduceEqDiff, Nat.reduceLT, Nat.reduceLeDiff, ↓reduceIte, implies_true, decide_true, decide_false, ne_eq, Value.oneCell', Int.reduceToNat, ite_self, beq_self_eq_true, bne_self_eq_false, gt_iff_lt, Int.reduceEq, Int.reduceLT, Int.reduceLE, Int.reduceNe, List.forall_mem_cons, false_implies, forall_const, *])))))
    refine vloop (fun n tm hp nx => ∃ (k : Nat) (v : Int), n = l.length - k ∧ k ≤ l.length ∧ tm 0 = .sl (ints l) ∧ tm 5 = .ex (.int .i64 k) ∧ tm 4 = .ex (.int .i64 v) ∧ -1000000000000 * (k : Int) ≤ v ∧ v ≤ 1000000000000 * (k : Int) ∧ Hid ((l.take k).all valid3 = true) ∧ Hid ((l.take k).sum = v)) l.length ⟨0, 0, rfl, Nat.zero_le _, by (first | rfl | (simp (disch := omega) only [sx0, sx1, sx2, sx3, sx4, sx5, sx6, isBytes, ATy.isAgg, ATy.known, tyb, Nat.reduceAdd, Nat.reduceMul, Nat.reduceEqDiff, Nat.reduceLT, Nat.reduceLeDiff, ↓reduceIte, implies_true, decide_true, decide_false, ne_eq, Value.oneCell', Int.reduceToNat, ite_self, beq_self_eq_true, bne_self_eq_false, gt_iff_lt, Int.reduceEq, Int.reduceLT, Int.reduceLE, Int.reduceNe, List.forall_mem_cons, false_implies, forall_const, natS, *])), by (first | rfl | (simp (disch := omega) only [sx0, sx1, sx2, sx3, sx4, sx5, sx6, isBytes, ATy.isAgg, ATy.known, tyb, Nat.reduceAdd, Nat.reduceMul, Nat.reduceEqDiff, Nat.reduceLT, Nat.reduceLeDiff, ↓reduceIte, implies_true, decide_true, decide_false, ne_eq, Value.oneCell', Int.reduceToNat, ite_self, beq_self_eq_true, bne_self_eq_false, gt_iff_lt, Int.reduceEq, Int.reduceLT, Int.reduceLE, Int.reduceNe, List.forall_mem_cons, false_implies, forall_const, natS, *])), by (first | rfl | (simp (disch := omega) only [sx0, sx1, sx2, sx3, sx4, sx5, sx6, isBytes, ATy.isAgg, ATy.known, tyb, Nat.reduceAdd, Nat.reduceMul, Nat.reduceEqDiff, Nat.reduceLT, Nat.reduceLeDiff, ↓reduceIte, implies_true, decide_true, decide_false, ne_eq, Value.oneCell', Int.reduceToNat, ite_self, beq_self_eq_true, bne_self_eq_false, gt_iff_lt, Int.reduceEq, Int.reduceLT, Int.reduceLE, Int.reduceNe, List.forall_mem_cons, false_implies, forall_const, natS, *])), by omega, by omega, Lib.hid rfl, Lib.hid rfl⟩ ?_
    rintro n tm hp nx ⟨k, v, hn, hkl, g0, g5, g4, hv1, hv2, hA, hS⟩
    by_cases hlt : k < l.length
    · have e0 : l[k]? = some l[k] := List.getElem?_eq_getElem hlt
      generalize l[k] = x at e0
      have q4 := ints_get e0
      cases hx : valid3 x with
      | true =>
        obtain ⟨b1, b2, b3, b4⟩ := valid_room hv1 hv2 hx (by omega)
        have n1 := Lib.hid (allv_next e0 hA.out hx)
        have n2 := Lib.hid (show (l.take (k + 1)).sum = v + x by rw [sum_next e0, hS.out])
        clear e0
        (repeat' (first
    | refine awp_seq ?_
    | refine awp_block ?_
    | (refine awp_ret ?_; simp only [then_ret, block_ret, end_ret])
    | ((first
        | refine call_val (by first | (simp only [sxc, sx6, z0, p0, Nat.reduceEqDiff, ↓reduceIte, AV.ex.injEq, Value.bool.injEq, Value.int.injEq, Value.string.injEq, List.all_append, List.map_append]; (try rfl); done) | (simp only [sxc, sx6, z0, p0, Nat.reduceEqDiff, ↓reduceIte, AV.ex.injEq, Value.bool.injEq, Value.int.injEq, Value.string.injEq, List.all_append, List.map_append, *]; (try rfl); done)) (RValid_con x) ?_
        | refine vplain ?_
        | refine vdraws (by kernel_rfl) ?_
        | refine vbuildS (by simp only [tyb, elemOf_s]) (by simp only [tyb, elemOf_s, List.length_cons, List.length_nil, List.all_cons, List.all_nil, Value.oneCell', Bool.and_self, Nat.reduceAdd, Nat.reduceMul, Nat.reduceLeDiff, Nat.reduceLT, true_and, and_true, and_self, Nat.lt_add_one, Nat.zero_mul, Nat.zero_le, Nat.one_mul]) ?_
        | refine vcond ?_
        | refine awp_exit ?_
        | refine awp_skip ?_
        | refine And.intro (by first | omega | assumption | exact setOk_ge (by decide +kernel) | exact setOk_late (by decide +kernel) (by (simp (disch := omega) only [sx0, sx1, sx2, sx3, sx4, sx5, sx6, isBytes, ATy.isAgg, ATy.known, tyb, Nat.reduceAdd, Nat.reduceMul, Nat.reduceEqDiff, Nat.reduceLT, Nat.reduceLeDiff, ↓reduceIte, implies_true, decide_true, decide_false, ne_eq, Value.oneCell', Int.reduceToNat, ite_self, beq_self_eq_true, bne_self_eq_false, gt_iff_lt, Int.reduceEq, Int.reduceLT, Int.reduceLE, Int.reduceNe, List.forall_mem_cons, false_implies, forall_const, natS, *]; rfl)) (by refine wkR_row ?_; repeat' (first | exact trivial | refine wkL_c (by decide +kernel) ?_)) | exact Nat.le_of_ble_eq_true (by kernel_rfl)) ?_
        | refine nqif_ways (fun h => ?_) ?_
        | ((first | refine gif_ways (fun h => ?_) (fun h => ?_) | refine cif_ways (fun h => ?_) (fun h => ?_)) <;> (try simp only [decide_eq_true_eq, decide_eq_false_iff_not, Bool.not_eq_true', Bool.not_eq_false', Bool.not_true, Bool.not_false] at h) <;> (try (exfalso; omega)))) <;> (try (simp (disch := omega) only [sx0, sx1, sx2, sx3, sx4, sx5, sx6, isBytes, ATy.isAgg, ATy.known, tyb, Nat.reduceAdd, Nat.reduceMul, Nat.reduceEqDiff, Nat.reduceLT, Nat.reduceLeDiff, ↓reduceIte, implies_true, decide_true, decide_false, ne_eq, Value.oneCell', Int.reduceToNat, ite_self, beq_self_eq_true, bne_self_eq_false, gt_iff_lt, Int.reduceEq, Int.reduceLT, Int.reduceLE, Int.reduceNe, List.forall_mem_cons, false_implies, forall_const, *])))))
        exact kround_i (l.length - (k + 1)) (by omega) ⟨k + 1, v + x, by omega, by omega, by (first | rfl | (simp (disch := omega) only [sx0, sx1, sx2, sx3, sx4, sx5, sx6, isBytes, ATy.isAgg, ATy.known, tyb, Nat.reduceAdd, Nat.reduceMul, Nat.reduceEqDiff, Nat.reduceLT, Nat.reduceLeDiff, ↓reduceIte, implies_true, decide_true, decide_false, ne_eq, Value.oneCell', Int.reduceToNat, ite_self, beq_self_eq_true, bne_self_eq_false, gt_iff_lt, Int.reduceEq, Int.reduceLT, Int.reduceLE, Int.reduceNe, List.forall_mem_cons, false_implies, forall_const, natS, *])), by (first | rfl | (simp (disch := omega) only [sx0, sx1, sx2, sx3, sx4, sx5, sx6, isBytes, ATy.isAgg, ATy.known, tyb, Nat.reduceAdd, Nat.reduceMul, Nat.reduceEqDiff, Nat.reduceLT, Nat.reduceLeDiff, ↓reduceIte, implies_true, decide_true, decide_false, ne_eq, Value.oneCell', Int.reduceToNat, ite_self, beq_self_eq_true, bne_self_eq_false, gt_iff_lt, Int.reduceEq, Int.reduceLT, Int.reduceLE, Int.reduceNe, List.forall_mem_cons, false_implies, forall_const, natS, *])), by (first | rfl | (simp (disch := omega) only [sx0, sx1, sx2, sx3, sx4, sx5, sx6, isBytes, ATy.isAgg, ATy.known, tyb, Nat.reduceAdd, Nat.reduceMul, Nat.reduceEqDiff, Nat.reduceLT, Nat.reduceLeDiff, ↓reduceIte, implies_true, decide_true, decide_false, ne_eq, Value.oneCell', Int.reduceToNat, ite_self, beq_self_eq_true, bne_self_eq_false, gt_iff_lt, Int.reduceEq, Int.reduceLT, Int.reduceLE, Int.reduceNe, List.forall_mem_cons, false_implies, forall_const, natS, *])), b1, b2, n1, n2⟩
      | false =>
        obtain ⟨r1, r2⟩ := sum_arg h1 (allv_no e0 hx)
        (repeat' (first
    | refine awp_seq ?_
    | refine awp_block ?_
    | (refine awp_ret ?_; simp only [then_ret, block_ret, end_ret])
    | ((first
        | refine call_val (by first | (simp only [sxc, sx6, z0, p0, Nat.reduceEqDiff, ↓reduceIte, AV.ex.injEq, Value.bool.injEq, Value.int.injEq, Value.string.injEq, List.all_append, List.map_append]; (try rfl); done) | (simp only [sxc, sx6, z0, p0, Nat.reduceEqDiff, ↓reduceIte, AV.ex.injEq, Value.bool.injEq, Value.int.injEq, Value.string.injEq, List.all_append, List.map_append, *]; (try rfl); done)) (RValid_con x) ?_
        | refine vplain ?_
        | refine vdraws (by kernel_rfl) ?_
        | refine vbuildS (by simp only [tyb, elemOf_s]) (by simp only [tyb, elemOf_s, List.length_cons, List.length_nil, List.all_cons, List.all_nil, Value.oneCell', Bool.and_self, Nat.reduceAdd, Nat.reduceMul, Nat.reduceLeDiff, Nat.reduceLT, true_and, and_true, and_self, Nat.lt_add_one, Nat.zero_mul, Nat.zero_le, Nat.one_mul]) ?_
        | refine vcond ?_
        | refine awp_exit ?_
        | refine awp_skip ?_
        | refine And.intro (by first | omega | assumption | exact setOk_ge (by decide +kernel) | exact setOk_late (by decide +kernel) (by (simp (disch := omega) only [sx0, sx1, sx2, sx3, sx4, sx5, sx6, isBytes, ATy.isAgg, ATy.known, tyb, Nat.reduceAdd, Nat.reduceMul, Nat.reduceEqDiff, Nat.reduceLT, Nat.reduceLeDiff, ↓reduceIte, implies_true, decide_true, decide_false, ne_eq, Value.oneCell', Int.reduceToNat, ite_self, beq_self_eq_true, bne_self_eq_false, gt_iff_lt, Int.reduceEq, Int.reduceLT, Int.reduceLE, Int.reduceNe, List.forall_mem_cons, false_implies, forall_const, natS, *]; rfl)) (by refine wkR_row ?_; repeat' (first | exact trivial | refine wkL_c (by decide +kernel) ?_)) | exact Nat.le_of_ble_eq_true (by kernel_rfl)) ?_
        | refine nqif_ways (fun h => ?_) ?_
        | ((first | refine gif_ways (fun h => ?_) (fun h => ?_) | refine cif_ways (fun h => ?_) (fun h => ?_)) <;> (try simp only [decide_eq_true_eq, decide_eq_false_iff_not, Bool.not_eq_true', Bool.not_eq_false', Bool.not_true, Bool.not_false] at h) <;> (try (exfalso; omega)))) <;> (try (simp (disch := omega) only [sx0, sx1, sx2, sx3, sx4, sx5, sx6, isBytes, ATy.isAgg, ATy.known, tyb, Nat.reduceAdd, Nat.reduceMul, Nat.reduceEqDiff, Nat.reduceLT, Nat.reduceLeDiff, ↓reduceIte, implies_true, decide_true, decide_false, ne_eq, Value.oneCell', Int.reduceToNat, ite_self, beq_self_eq_true, bne_self_eq_false, gt_iff_lt, Int.reduceEq, Int.reduceLT, Int.reduceLE, Int.reduceNe, List.forall_mem_cons, false_implies, forall_const, *])))))
        all_goals simp only [sxc, sx6, z0, p0, Nat.reduceEqDiff, ↓reduceIte, AV.ex.injEq, Value.bool.injEq, Value.int.injEq, Value.string.injEq, List.all_append, List.map_append, Tryd.f12, *]
    · obtain ⟨r1, r2⟩ := sum_end h1 (by omega) hA.out hS.out
      cases hx : valid3 v with
      | true =>
        rw [if_pos hx] at r1 r2
        (repeat' (first
    | refine awp_seq ?_
    | refine awp_block ?_
    | (refine awp_ret ?_; simp only [then_ret, block_ret, end_ret])
    | ((first
        | refine call_val (by first | (simp only [sxc, sx6, z0, p0, Nat.reduceEqDiff, ↓reduceIte, AV.ex.injEq, Value.bool.injEq, Value.int.injEq, Value.string.injEq, List.all_append, List.map_append]; (try rfl); done) | (simp only [sxc, sx6, z0, p0, Nat.reduceEqDiff, ↓reduceIte, AV.ex.injEq, Value.bool.injEq, Value.int.injEq, Value.string.injEq, List.all_append, List.map_append, *]; (try rfl); done)) (RValid_con v) ?_
        | refine vplain ?_
        | refine vdraws (by kernel_rfl) ?_
        | refine vbuildS (by simp only [tyb, elemOf_s]) (by simp only [tyb, elemOf_s, List.length_cons, List.length_nil, List.all_cons, List.all_nil, Value.oneCell', Bool.and_self, Nat.reduceAdd, Nat.reduceMul, Nat.reduceLeDiff, Nat.reduceLT, true_and, and_true, and_self, Nat.lt_add_one, Nat.zero_mul, Nat.zero_le, Nat.one_mul]) ?_
        | refine vcond ?_
        | refine awp_exit ?_
        | refine awp_skip ?_
        | refine And.intro (by first | omega | assumption | exact setOk_ge (by decide +kernel) | exact setOk_late (by decide +kernel) (by (simp (disch := omega) only [sx0, sx1, sx2, sx3, sx4, sx5, sx6, isBytes, ATy.isAgg, ATy.known, tyb, Nat.reduceAdd, Nat.reduceMul, Nat.reduceEqDiff, Nat.reduceLT, Nat.reduceLeDiff, ↓reduceIte, implies_true, decide_true, decide_false, ne_eq, Value.oneCell', Int.reduceToNat, ite_self, beq_self_eq_true, bne_self_eq_false, gt_iff_lt, Int.reduceEq, Int.reduceLT, Int.reduceLE, Int.reduceNe, List.forall_mem_cons, false_implies, forall_const, natS, *]; rfl)) (by refine wkR_row ?_; repeat' (first | exact trivial | refine wkL_c (by decide +kernel) ?_)) | exact Nat.le_of_ble_eq_true (by kernel_rfl)) ?_
        | refine nqif_ways (fun h => ?_) ?_
        | ((first | refine gif_ways (fun h => ?_) (fun h => ?_) | refine cif_ways (fun h => ?_) (fun h => ?_)) <;> (try simp only [decide_eq_true_eq, decide_eq_false_iff_not, Bool.not_eq_true', Bool.not_eq_false', Bool.not_true, Bool.not_false] at h) <;> (try (exfalso; omega)))) <;> (try (simp (disch := omega) only [sx0, sx1, sx2, sx3, sx4, sx5, sx6, isBytes, ATy.isAgg, ATy.known, tyb, Nat.reduceAdd, Nat.reduceMul, Nat.reduceEqDiff, Nat.reduceLT, Nat.reduceLeDiff, ↓reduceIte, implies_true, decide_true, decide_false, ne_eq, Value.oneCell', Int.reduceToNat, ite_self, beq_self_eq_true, bne_self_eq_false, gt_iff_lt, Int.reduceEq, Int.reduceLT, Int.reduceLE, Int.reduceNe, List.forall_mem_cons, false_implies, forall_const, *])))))
        all_goals simp only [sxc, sx6, z0, p0, Nat.reduceEqDiff, ↓reduceIte, AV.ex.injEq, Value.bool.injEq, Value.int.injEq, Value.string.injEq, List.all_append, List.map_append, Tryd.f12, *]
      | false =>
        rw [if_neg (by rw [hx]; simp)] at r1 r2
        (repeat' (first
    | refine awp_seq ?_
    | refine awp_block ?_
    | (refine awp_ret ?_; simp only [then_ret, block_ret, end_ret])
    | ((first
        | refine call_val (by first | (simp only [sxc, sx6, z0, p0, Nat.reduceEqDiff, ↓reduceIte, AV.ex.injEq, Value.bool.injEq, Value.int.injEq, Value.string.injEq, List.all_append, List.map_append]; (try rfl); done) | (simp only [sxc, sx6, z0, p0, Nat.reduceEqDiff, ↓reduceIte, AV.ex.injEq, Value.bool.injEq, Value.int.injEq, Value.string.injEq, List.all_append, List.map_append, *]; (try rfl); done)) (RValid_con v) ?_
        | refine vplain ?_
        | refine vdraws (by kernel_rfl) ?_
        | refine vbuildS (by simp only [tyb, elemOf_s]) (by simp only [tyb, elemOf_s, List.length_cons, List.length_nil, List.all_cons, List.all_nil, Value.oneCell', Bool.and_self, Nat.reduceAdd, Nat.reduceMul, Nat.reduceLeDiff, Nat.reduceLT, true_and, and_true, and_self, Nat.lt_add_one, Nat.zero_mul, Nat.zero_le, Nat.one_mul]) ?_
        | refine vcond ?_
        | refine awp_exit ?_
        | refine awp_skip ?_
        | refine And.intro (by first | omega | assumption | exact setOk_ge (by decide +kernel) | exact setOk_late (by decide +kernel) (by (simp (disch := omega) only [sx0, sx1, sx2, sx3, sx4, sx5, sx6, isBytes, ATy.isAgg, ATy.known, tyb, Nat.reduceAdd, Nat.reduceMul, Nat.reduceEqDiff, Nat.reduceLT, Nat.reduceLeDiff, ↓reduceIte, implies_true, decide_true, decide_false, ne_eq, Value.oneCell', Int.reduceToNat, ite_self, beq_self_eq_true, bne_self_eq_false, gt_iff_lt, Int.reduceEq, Int.reduceLT, Int.reduceLE, Int.reduceNe, List.forall_mem_cons, false_implies, forall_const, natS, *]; rfl)) (by refine wkR_row ?_; repeat' (first | exact trivial | refine wkL_c (by decide +kernel) ?_)) | exact Nat.le_of_ble_eq_true (by kernel_rfl)) ?_
        | refine nqif_ways (fun h => ?_) ?_
        | ((first | refine gif_ways (fun h => ?_) (fun h => ?_) | refine cif_ways (fun h => ?_) (fun h => ?_)) <;> (try simp only [decide_eq_true_eq, decide_eq_false_iff_not, Bool.not_eq_true', Bool.not_eq_false', Bool.not_true, Bool.not_false] at h) <;> (try (exfalso; omega)))) <;> (try (simp (disch := omega) only [sx0, sx1, sx2, sx3, sx4, sx5, sx6, isBytes, ATy.isAgg, ATy.known, tyb, Nat.reduceAdd, Nat.reduceMul, Nat.reduceEqDiff, Nat.reduceLT, Nat.reduceLeDiff, ↓reduceIte, implies_true, decide_true, decide_false, ne_eq, Value.oneCell', Int.reduceToNat, ite_self, beq_self_eq_true, bne_self_eq_false, gt_iff_lt, Int.reduceEq, Int.reduceLT, Int.reduceLE, Int.reduceNe, List.forall_mem_cons, false_implies, forall_const, *])))))
        all_goals simp only [sxc, sx6, z0, p0, Nat.reduceEqDiff, ↓reduceIte, AV.ex.injEq, Value.bool.injEq, Value.int.injEq, Value.string.injEq, List.all_append, List.map_append, Tryd.f12, *]
  · obtain ⟨r1, r2⟩ := sum_many (l := l) (by omega)
    (repeat' (first
    | refine awp_seq ?_
    | refine awp_block ?_
    | (refine awp_ret ?_; simp only [then_ret, block_ret, end_ret])
    | ((first
        | refine vplain ?_
        | refine vdraws (by kernel_rfl) ?_
        | refine vbuildS (by simp only [tyb, elemOf_s]) (by simp only [tyb, elemOf_s, List.length_cons, List.length_nil, List.all_cons, List.all_nil, Value.oneCell', Bool.and_self, Nat.reduceAdd, Nat.reduceMul, Nat.reduceLeDiff, Nat.reduceLT, true_and, and_true, and_self, Nat.lt_add_one, Nat.zero_mul, Nat.zero_le, Nat.one_mul]) ?_
        | refine vcond ?_
        | refine awp_exit ?_
        | refine awp_skip ?_
        | refine And.intro (by first | omega | assumption | exact setOk_ge (by decide +kernel) | exact setOk_late (by decide +kernel) (by (simp (disch := omega) only [sx0, sx1, sx2, sx3, sx4, sx5, sx6, isBytes, ATy.isAgg, ATy.known, tyb, Nat.reduceAdd, Nat.reduceMul, Nat.reduceEqDiff, Nat.reduceLT, Nat.reduceLeDiff, ↓reduceIte, implies_true, decide_true, decide_false, ne_eq, Value.oneCell', Int.reduceToNat, ite_self, beq_self_eq_true, bne_self_eq_false, gt_iff_lt, Int.reduceEq, Int.reduceLT, Int.reduceLE, Int.reduceNe, List.forall_mem_cons, false_implies, forall_const, natS, *]; rfl)) (by refine wkR_row ?_; repeat' (first | exact trivial | refine wkL_c (by decide +kernel) ?_)) | exact Nat.le_of_ble_eq_true (by kernel_rfl)) ?_
        | refine nqif_ways (fun h => ?_) ?_
        | ((first | refine gif_ways (fun h => ?_) (fun h => ?_) | refine cif_ways (fun h => ?_) (fun h => ?_)) <;> (try simp only [decide_eq_true_eq, decide_eq_false_iff_not, Bool.not_eq_true', Bool.not_eq_false', Bool.not_true, Bool.not_false] at h) <;> (try (exfalso; omega)))) <;> (try (simp (disch := omega) only [sx0, sx1, sx2, sx3, sx4, sx5, sx6, isBytes, ATy.isAgg, ATy.known, tyb, Nat.reduceAdd, Nat.reduceMul, Nat.reduceEqDiff, Nat.reduceLT, Nat.reduceLeDiff, ↓reduceIte, implies_true, decide_true, decide_false, ne_eq, Value.oneCell', Int.reduceToNat, ite_self, beq_self_eq_true, bne_self_eq_false, gt_iff_lt, Int.reduceEq, Int.reduceLT, Int.reduceLE, Int.reduceNe, List.forall_mem_cons, false_implies, forall_const, *])))))
    all_goals simp only [sxc, sx6, z0, p0, Nat.reduceEqDiff, ↓reduceIte, AV.ex.injEq, Value.bool.injEq, Value.int.injEq, Value.string.injEq, List.all_append, List.map_append, Tryd.f12, *]
end Go.Proofs.YtaphbajfjmhpnaaDoor
