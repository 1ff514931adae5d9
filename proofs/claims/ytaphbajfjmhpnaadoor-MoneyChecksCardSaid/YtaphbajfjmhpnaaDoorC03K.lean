/-
  The laws of chapter 03, walked: each returns true. Conditions: the inputs are such as the machine holds.
-/
import Derived.Test.YtaphbajfjmhpnaaDoorC03J
namespace Go.Proofs.YtaphbajfjmhpnaaDoor
open Go.RowKit
set_option maxRecDepth 100000
set_option linter.unusedSimpArgs false

theorem lives_con : Con Tryd.prog Ctx 10 [] (.val (.ex (.bool true))) := by
  have h1 : Con Tryd.prog Ctx 15 [.ex (.int .i64 (-1234)), .ex (.int .i64 2)] (.val (.tup [.ex (.string ⟨#[45, 49, 50, 46, 51, 52]⟩), .ex (.int .i64 0)])) := by
    have h := Format_con (-1234) 2 (by decide)
    rwa [show formatS (-1234) 2 = ⟨#[45, 49, 50, 46, 51, 52]⟩ by decide +kernel, show formatE (-1234) 2 = 0 by decide +kernel] at h
  have h2 : Con Tryd.prog Ctx 15 [.ex (.int .i64 5), .ex (.int .i64 2)] (.val (.tup [.ex (.string ⟨#[48, 46, 48, 53]⟩), .ex (.int .i64 0)])) := by
    have h := Format_con 5 2 (by decide)
    rwa [show formatS 5 2 = ⟨#[48, 46, 48, 53]⟩ by decide +kernel, show formatE 5 2 = 0 by decide +kernel] at h
  have h3 : Con Tryd.prog Ctx 17 [.ex (.string ⟨#[45, 49, 50, 46, 51, 52]⟩), .ex (.int .i64 2)] (.val (.tup [.ex (.int .i64 (-1234)), .ex (.int .i64 0)])) := by
    have h := Parse_con ⟨#[45, 49, 50, 46, 51, 52]⟩ 2 (by decide +kernel)
    rwa [show parseV (⟨#[45, 49, 50, 46, 51, 52]⟩ : ByteArray).data.toList 2 = -1234 by decide +kernel, show parseE (⟨#[45, 49, 50, 46, 51, 52]⟩ : ByteArray).data.toList 2 = 0 by decide +kernel] at h
  have h4 : Con Tryd.prog Ctx 17 [.ex (.string ⟨#[45, 48, 46, 48, 48]⟩), .ex (.int .i64 2)] (.val (.tup [.ex (.int .i64 0), .ex (.int .i64 2)])) := by
    have h := Parse_con ⟨#[45, 48, 46, 48, 48]⟩ 2 (by decide +kernel)
    rwa [show parseV (⟨#[45, 48, 46, 48, 48]⟩ : ByteArray).data.toList 2 = 0 by decide +kernel, show parseE (⟨#[45, 48, 46, 48, 48]⟩ : ByteArray).data.toList 2 = 2 by decide +kernel] at h
  have h5 : Con Tryd.prog Ctx 11 [.sl [[.ex (.int .i64 1000000000000)], [.ex (.int .i64 1000000000000)], [.ex (.int .i64 (-1000000000000))]]] (.val (.tup [.ex (.int .i64 1000000000000), .ex (.int .i64 0)])) := by
    have h := Sum_con [1000000000000, 1000000000000, -1000000000000] (by decide)
    rwa [show sumV [1000000000000, 1000000000000, -1000000000000] = 1000000000000 by decide +kernel, show sumE [1000000000000, 1000000000000, -1000000000000] = 0 by decide +kernel] at h
  have h6 : Con Tryd.prog Ctx 13 [.ex (.string ⟨#[69, 85, 82]⟩)] (.val (.ex (.bool true))) := by
    have h := Code_con ⟨#[69, 85, 82]⟩ (by decide +kernel)
    rwa [show codeB (⟨#[69, 85, 82]⟩ : ByteArray).data.toList = true by decide +kernel] at h
  have h7 : Con Tryd.prog Ctx 19 [.ex (.int .i64 (-5))] (.val (.ex (.bool true))) := Valid_con (-5)
  refine con_val base Tryd.func10 rfl rfl (by kernel_rfl) (Nat.le_of_ble_eq_true rfl) ?_
  rw [init_eq]
  (repeat' (first
    | refine awp_seq ?_
    | refine awp_block ?_
    | (refine awp_ret ?_; simp only [then_ret, block_ret, end_ret])
    | ((first
        | refine call_val (by first | (simp only [sxc, sx6, z0, p0, Nat.reduceEqDiff, ↓reduceIte, AV.ex.injEq, Value.bool.injEq, Value.int.injEq, Value.string.injEq, List.all_append, List.map_append]; (try rfl); done) | (simp only [sxc, sx6, z0, p0, Nat.reduceEqDiff, ↓reduceIte, AV.ex.injEq, Value.bool.injEq, Value.int.injEq, Value.string.injEq, List.all_append, List.map_append, *]; (try rfl); done)) (h1) ?_
        | refine call_val (by first | (simp only [sxc, sx6, z0, p0, Nat.reduceEqDiff, ↓reduceIte, AV.ex.injEq, Value.bool.injEq, Value.int.injEq, Value.string.injEq, List.all_append, List.map_append]; (try rfl); done) | (simp only [sxc, sx6, z0, p0, Nat.reduceEqDiff, ↓reduceIte, AV.ex.injEq, Value.bool.injEq, Value.int.injEq, Value.string.injEq, List.all_append, List.map_append, *]; (try rfl); done)) (h2) ?_
        | refine call_val (by first | (simp only [sxc, sx6, z0, p0, Nat.reduceEqDiff, ↓reduceIte, AV.ex.injEq, Value.bool.injEq, Value.int.injEq, Value.string.injEq, List.all_append, List.map_append]; (try rfl); done) | (simp only [sxc, sx6, z0, p0, Nat.reduceEqDiff, ↓reduceIte, AV.ex.injEq, Value.bool.injEq, Value.int.injEq, Value.string.injEq, List.all_append, List.map_append, *]; (try rfl); done)) (h3) ?_
        | refine call_val (by first | (simp only [sxc, sx6, z0, p0, Nat.reduceEqDiff, ↓reduceIte, AV.ex.injEq, Value.bool.injEq, Value.int.injEq, Value.string.injEq, List.all_append, List.map_append]; (try rfl); done) | (simp only [sxc, sx6, z0, p0, Nat.reduceEqDiff, ↓reduceIte, AV.ex.injEq, Value.bool.injEq, Value.int.injEq, Value.string.injEq, List.all_append, List.map_append, *]; (try rfl); done)) (h4) ?_
        | refine call_val (by first | (simp only [sxc, sx6, z0, p0, Nat.reduceEqDiff, ↓reduceIte, AV.ex.injEq, Value.bool.injEq, Value.int.injEq, Value.string.injEq, List.all_append, List.map_append]; (try rfl); done) | (simp only [sxc, sx6, z0, p0, Nat.reduceEqDiff, ↓reduceIte, AV.ex.injEq, Value.bool.injEq, Value.int.injEq, Value.string.injEq, List.all_append, List.map_append, *]; (try rfl); done)) (h5) ?_
        | refine call_val (by first | (simp only [sxc, sx6, z0, p0, Nat.reduceEqDiff, ↓reduceIte, AV.ex.injEq, Value.bool.injEq, Value.int.injEq, Value.string.injEq, List.all_append, List.map_append]; (try rfl); done) | (simp only [sxc, sx6, z0, p0, Nat.reduceEqDiff, ↓reduceIte, AV.ex.injEq, Value.bool.injEq, Value.int.injEq, Value.string.injEq, List.all_append, List.map_append, *]; (try rfl); done)) (h6) ?_
        | refine call_val (by first | (simp only [sxc, sx6, z0, p0, Nat.reduceEqDiff, ↓reduceIte, AV.ex.injEq, Value.bool.injEq, Value.int.injEq, Value.string.injEq, List.all_append, List.map_append]; (try rfl); done) | (simp only [sxc, sx6, z0, p0, Nat.reduceEqDiff, ↓reduceIte, AV.ex.injEq, Value.bool.injEq, Value.int.injEq, Value.string.injEq, List.all_append, List.map_append, *]; (try rfl); done)) (h7) ?_
        | refine vplain ?_
        | refine vdraws (by kernel_rfl) ?_
        | refine vbuildS (by simp only [tyb, elemOf_s]) (by simp only [tyb, elemOf_s, List.length_cons, List.length_nil, List.all_cons, List.all_nil, Value.oneCell', Bool.and_self, Nat.reduceAdd, Nat.reduceMul, Nat.reduceLeDiff, Nat.reduceLT, true_and, and_true, and_self, Nat.lt_add_one, Nat.zero_mul, Nat.zero_le, Nat.one_mul]) ?_
        | refine vcond ?_
        | refine awp_exit ?_
        | refine awp_skip ?_
        | refine And.intro (by first | omega | assumption | exact setOk_ge (by decide +kernel) | exact setOk_late (by decide +kernel) (by (simp (disch := omega) only [sx0, sx1, sx2, sx3, sx4, sx5, sx6, isBytes, ATy.isAgg, ATy.known, tyb, Nat.reduceAdd, Nat.reduceMul, Nat.reduceEqDiff, Nat.reduceLT, Nat.reduceLeDiff, ↓reduceIte, implies_true, decide_true, decide_false, ne_eq, Value.oneCell', Int.reduceToNat, ite_self, beq_self_eq_true, bne_self_eq_false, gt_iff_lt, Int.reduceEq, Int.reduceLT, Int.reduceLE, Int.reduceNe, List.forall_mem_cons, false_implies, forall_const, natS, *]; rfl)) (by refine wkR_row ?_; repeat' (first | exact trivial | refine wkL_c (by decide +kernel) ?_)) | exact Nat.le_of_ble_eq_true (by kernel_rfl)) ?_
        | refine nqif_ways (fun h => ?_) ?_
        | ((first | refine gif_ways (fun h => ?_) (fun h => ?_) | refine cif_ways (fun h => ?_) (fun h => ?_)) <;> (try simp only [decide_eq_true_eq, decide_eq_false_iff_not, Bool.not_eq_true', Bool.not_eq_false', Bool.not_true, Bool.not_false] at h) <;> (try (exfalso; omega)))) <;> (try (simp (disch := omega) only [sx0, sx1, sx2, sx3, sx4, sx5, sx6, isBytes, ATy.isAgg, ATy.known, tyb, Nat.reduceAdd, Nat.reduceMul, Nat.reduceEqDiff, Nat.reduceLT, Nat.reduceLeDiff, ↓reduceIte, implies_true, decide_true, decide_false, ne_eq, Value.oneCell', Int.reduceToNat, ite_self, beq_self_eq_true, bne_self_eq_false, gt_iff_lt, Int.reduceEq, Int.reduceLT, Int.reduceLE, Int.reduceNe, List.forall_mem_cons, false_implies, forall_const, *])))))
  all_goals simp only [sxc, sx6, z0, p0, Nat.reduceEqDiff, ↓reduceIte, AV.ex.injEq, Value.bool.injEq, Value.int.injEq, Value.string.injEq, List.all_append, List.map_append, Tryd.f10, *]

theorem MoneyAdds_con (a b : Int) : Con Tryd.prog Ctx 8 [.ex (.int .i64 a), .ex (.int .i64 b)] (.val (.ex (.bool true))) := by
  refine con_val base Tryd.func8 rfl rfl (by kernel_rfl) (Nat.le_of_ble_eq_true rfl) ?_
  rw [init_eq]
  have e1 := addV_comm b a
  have e2 := addE_comm b a
  (repeat' (first
    | refine awp_seq ?_
    | refine awp_block ?_
    | (refine awp_ret ?_; simp only [then_ret, block_ret, end_ret])
    | ((first
        | refine call_val (by first | (simp only [sxc, sx6, z0, p0, Nat.reduceEqDiff, ↓reduceIte, AV.ex.injEq, Value.bool.injEq, Value.int.injEq, Value.string.injEq, List.all_append, List.map_append]; (try rfl); done) | (simp only [sxc, sx6, z0, p0, Nat.reduceEqDiff, ↓reduceIte, AV.ex.injEq, Value.bool.injEq, Value.int.injEq, Value.string.injEq, List.all_append, List.map_append, *]; (try rfl); done)) (Add_con a b) ?_
        | refine call_val (by first | (simp only [sxc, sx6, z0, p0, Nat.reduceEqDiff, ↓reduceIte, AV.ex.injEq, Value.bool.injEq, Value.int.injEq, Value.string.injEq, List.all_append, List.map_append]; (try rfl); done) | (simp only [sxc, sx6, z0, p0, Nat.reduceEqDiff, ↓reduceIte, AV.ex.injEq, Value.bool.injEq, Value.int.injEq, Value.string.injEq, List.all_append, List.map_append, *]; (try rfl); done)) (RAdd_con a b) ?_
        | refine call_val (by first | (simp only [sxc, sx6, z0, p0, Nat.reduceEqDiff, ↓reduceIte, AV.ex.injEq, Value.bool.injEq, Value.int.injEq, Value.string.injEq, List.all_append, List.map_append]; (try rfl); done) | (simp only [sxc, sx6, z0, p0, Nat.reduceEqDiff, ↓reduceIte, AV.ex.injEq, Value.bool.injEq, Value.int.injEq, Value.string.injEq, List.all_append, List.map_append, *]; (try rfl); done)) (Add_con b a) ?_
        | refine call_val (by first | (simp only [sxc, sx6, z0, p0, Nat.reduceEqDiff, ↓reduceIte, AV.ex.injEq, Value.bool.injEq, Value.int.injEq, Value.string.injEq, List.all_append, List.map_append]; (try rfl); done) | (simp only [sxc, sx6, z0, p0, Nat.reduceEqDiff, ↓reduceIte, AV.ex.injEq, Value.bool.injEq, Value.int.injEq, Value.string.injEq, List.all_append, List.map_append, *]; (try rfl); done)) (Valid_con a) ?_
        | refine call_val (by first | (simp only [sxc, sx6, z0, p0, Nat.reduceEqDiff, ↓reduceIte, AV.ex.injEq, Value.bool.injEq, Value.int.injEq, Value.string.injEq, List.all_append, List.map_append]; (try rfl); done) | (simp only [sxc, sx6, z0, p0, Nat.reduceEqDiff, ↓reduceIte, AV.ex.injEq, Value.bool.injEq, Value.int.injEq, Value.string.injEq, List.all_append, List.map_append, *]; (try rfl); done)) (RValid_con a) ?_
        | refine call_val (by first | (simp only [sxc, sx6, z0, p0, Nat.reduceEqDiff, ↓reduceIte, AV.ex.injEq, Value.bool.injEq, Value.int.injEq, Value.string.injEq, List.all_append, List.map_append]; (try rfl); done) | (simp only [sxc, sx6, z0, p0, Nat.reduceEqDiff, ↓reduceIte, AV.ex.injEq, Value.bool.injEq, Value.int.injEq, Value.string.injEq, List.all_append, List.map_append, *]; (try rfl); done)) (lives_con) ?_
        | refine vplain ?_
        | refine vdraws (by kernel_rfl) ?_
        | refine vbuildS (by simp only [tyb, elemOf_s]) (by simp only [tyb, elemOf_s, List.length_cons, List.length_nil, List.all_cons, List.all_nil, Value.oneCell', Bool.and_self, Nat.reduceAdd, Nat.reduceMul, Nat.reduceLeDiff, Nat.reduceLT, true_and, and_true, and_self, Nat.lt_add_one, Nat.zero_mul, Nat.zero_le, Nat.one_mul]) ?_
        | refine vcond ?_
        | refine awp_exit ?_
        | refine awp_skip ?_
        | refine And.intro (by first | omega | assumption | exact setOk_ge (by decide +kernel) | exact setOk_late (by decide +kernel) (by (simp (disch := omega) only [sx0, sx1, sx2, sx3, sx4, sx5, sx6, isBytes, ATy.isAgg, ATy.known, tyb, Nat.reduceAdd, Nat.reduceMul, Nat.reduceEqDiff, Nat.reduceLT, Nat.reduceLeDiff, ↓reduceIte, implies_true, decide_true, decide_false, ne_eq, Value.oneCell', Int.reduceToNat, ite_self, beq_self_eq_true, bne_self_eq_false, gt_iff_lt, Int.reduceEq, Int.reduceLT, Int.reduceLE, Int.reduceNe, List.forall_mem_cons, false_implies, forall_const, natS, *]; rfl)) (by refine wkR_row ?_; repeat' (first | exact trivial | refine wkL_c (by decide +kernel) ?_)) | exact Nat.le_of_ble_eq_true (by kernel_rfl)) ?_
        | refine nqif_ways (fun h => ?_) ?_
        | ((first | refine gif_ways (fun h => ?_) (fun h => ?_) | refine cif_ways (fun h => ?_) (fun h => ?_)) <;> (try simp only [decide_eq_true_eq, decide_eq_false_iff_not, Bool.not_eq_true', Bool.not_eq_false', Bool.not_true, Bool.not_false] at h) <;> (try (exfalso; omega)))) <;> (try (simp (disch := omega) only [sx0, sx1, sx2, sx3, sx4, sx5, sx6, isBytes, ATy.isAgg, ATy.known, tyb, Nat.reduceAdd, Nat.reduceMul, Nat.reduceEqDiff, Nat.reduceLT, Nat.reduceLeDiff, ↓reduceIte, implies_true, decide_true, decide_false, ne_eq, Value.oneCell', Int.reduceToNat, ite_self, beq_self_eq_true, bne_self_eq_false, gt_iff_lt, Int.reduceEq, Int.reduceLT, Int.reduceLE, Int.reduceNe, List.forall_mem_cons, false_implies, forall_const, *])))))
  all_goals simp only [sxc, sx6, z0, p0, Nat.reduceEqDiff, ↓reduceIte, AV.ex.injEq, Value.bool.injEq, Value.int.injEq, Value.string.injEq, List.all_append, List.map_append, Tryd.f8, *]
theorem MoneyFormats_con (a d : Int) (hd : -9223372036854775808 ≤ d) : Con Tryd.prog Ctx 5 [.ex (.int .i64 a), .ex (.int .i64 d)] (.val (.ex (.bool true))) := by
  refine con_val base Tryd.func5 rfl rfl (by kernel_rfl) (Nat.le_of_ble_eq_true rfl) ?_
  rw [init_eq]
  (repeat' (first
    | refine awp_seq ?_
    | refine awp_block ?_
    | (refine awp_ret ?_; simp only [then_ret, block_ret, end_ret])
    | ((first
        | refine call_val (by first | (simp only [sxc, sx6, z0, p0, Nat.reduceEqDiff, ↓reduceIte, AV.ex.injEq, Value.bool.injEq, Value.int.injEq, Value.string.injEq, List.all_append, List.map_append]; (try rfl); done) | (simp only [sxc, sx6, z0, p0, Nat.reduceEqDiff, ↓reduceIte, AV.ex.injEq, Value.bool.injEq, Value.int.injEq, Value.string.injEq, List.all_append, List.map_append, *]; (try rfl); done)) (Format_con a d hd) ?_
        | refine call_val (by first | (simp only [sxc, sx6, z0, p0, Nat.reduceEqDiff, ↓reduceIte, AV.ex.injEq, Value.bool.injEq, Value.int.injEq, Value.string.injEq, List.all_append, List.map_append]; (try rfl); done) | (simp only [sxc, sx6, z0, p0, Nat.reduceEqDiff, ↓reduceIte, AV.ex.injEq, Value.bool.injEq, Value.int.injEq, Value.string.injEq, List.all_append, List.map_append, *]; (try rfl); done)) (RFormat_con a d) ?_
        | refine call_val (by first | (simp only [sxc, sx6, z0, p0, Nat.reduceEqDiff, ↓reduceIte, AV.ex.injEq, Value.bool.injEq, Value.int.injEq, Value.string.injEq, List.all_append, List.map_append]; (try rfl); done) | (simp only [sxc, sx6, z0, p0, Nat.reduceEqDiff, ↓reduceIte, AV.ex.injEq, Value.bool.injEq, Value.int.injEq, Value.string.injEq, List.all_append, List.map_append, *]; (try rfl); done)) (lives_con) ?_
        | refine vplain ?_
        | refine vdraws (by kernel_rfl) ?_
        | refine vbuildS (by simp only [tyb, elemOf_s]) (by simp only [tyb, elemOf_s, List.length_cons, List.length_nil, List.all_cons, List.all_nil, Value.oneCell', Bool.and_self, Nat.reduceAdd, Nat.reduceMul, Nat.reduceLeDiff, Nat.reduceLT, true_and, and_true, and_self, Nat.lt_add_one, Nat.zero_mul, Nat.zero_le, Nat.one_mul]) ?_
        | refine vcond ?_
        | refine awp_exit ?_
        | refine awp_skip ?_
        | refine And.intro (by first | omega | assumption | exact setOk_ge (by decide +kernel) | exact setOk_late (by decide +kernel) (by (simp (disch := omega) only [sx0, sx1, sx2, sx3, sx4, sx5, sx6, isBytes, ATy.isAgg, ATy.known, tyb, Nat.reduceAdd, Nat.reduceMul, Nat.reduceEqDiff, Nat.reduceLT, Nat.reduceLeDiff, ↓reduceIte, implies_true, decide_true, decide_false, ne_eq, Value.oneCell', Int.reduceToNat, ite_self, beq_self_eq_true, bne_self_eq_false, gt_iff_lt, Int.reduceEq, Int.reduceLT, Int.reduceLE, Int.reduceNe, List.forall_mem_cons, false_implies, forall_const, natS, *]; rfl)) (by refine wkR_row ?_; repeat' (first | exact trivial | refine wkL_c (by decide +kernel) ?_)) | exact Nat.le_of_ble_eq_true (by kernel_rfl)) ?_
        | refine nqif_ways (fun h => ?_) ?_
        | ((first | refine gif_ways (fun h => ?_) (fun h => ?_) | refine cif_ways (fun h => ?_) (fun h => ?_)) <;> (try simp only [decide_eq_true_eq, decide_eq_false_iff_not, Bool.not_eq_true', Bool.not_eq_false', Bool.not_true, Bool.not_false] at h) <;> (try (exfalso; omega)))) <;> (try (simp (disch := omega) only [sx0, sx1, sx2, sx3, sx4, sx5, sx6, isBytes, ATy.isAgg, ATy.known, tyb, Nat.reduceAdd, Nat.reduceMul, Nat.reduceEqDiff, Nat.reduceLT, Nat.reduceLeDiff, ↓reduceIte, implies_true, decide_true, decide_false, ne_eq, Value.oneCell', Int.reduceToNat, ite_self, beq_self_eq_true, bne_self_eq_false, gt_iff_lt, Int.reduceEq, Int.reduceLT, Int.reduceLE, Int.reduceNe, List.forall_mem_cons, false_implies, forall_const, *])))))
  all_goals simp only [sxc, sx6, z0, p0, Nat.reduceEqDiff, ↓reduceIte, AV.ex.injEq, Value.bool.injEq, Value.int.injEq, Value.string.injEq, List.all_append, List.map_append, Tryd.f5, *]
theorem MoneyParses_con (s : ByteArray) (d : Int) (hs : s.size ≤ 140737488355328) : Con Tryd.prog Ctx 6 [.ex (.string s), .ex (.int .i64 d)] (.val (.ex (.bool true))) := by
  refine con_val base Tryd.func6 rfl rfl (by kernel_rfl) (Nat.le_of_ble_eq_true rfl) ?_
  rw [init_eq]
  by_cases h : s.size ≤ 100
  · (repeat' (first
    | refine awp_seq ?_
    | refine awp_block ?_
    | (refine awp_ret ?_; simp only [then_ret, block_ret, end_ret])
    | ((first
        | refine call_val (by first | (simp only [sxc, sx6, z0, p0, Nat.reduceEqDiff, ↓reduceIte, AV.ex.injEq, Value.bool.injEq, Value.int.injEq, Value.string.injEq, List.all_append, List.map_append]; (try rfl); done) | (simp only [sxc, sx6, z0, p0, Nat.reduceEqDiff, ↓reduceIte, AV.ex.injEq, Value.bool.injEq, Value.int.injEq, Value.string.injEq, List.all_append, List.map_append, *]; (try rfl); done)) (Parse_con s d hs) ?_
        | refine call_val (by first | (simp only [sxc, sx6, z0, p0, Nat.reduceEqDiff, ↓reduceIte, AV.ex.injEq, Value.bool.injEq, Value.int.injEq, Value.string.injEq, List.all_append, List.map_append]; (try rfl); done) | (simp only [sxc, sx6, z0, p0, Nat.reduceEqDiff, ↓reduceIte, AV.ex.injEq, Value.bool.injEq, Value.int.injEq, Value.string.injEq, List.all_append, List.map_append, *]; (try rfl); done)) (RParse_con s d hs) ?_
        | refine call_val (by first | (simp only [sxc, sx6, z0, p0, Nat.reduceEqDiff, ↓reduceIte, AV.ex.injEq, Value.bool.injEq, Value.int.injEq, Value.string.injEq, List.all_append, List.map_append]; (try rfl); done) | (simp only [sxc, sx6, z0, p0, Nat.reduceEqDiff, ↓reduceIte, AV.ex.injEq, Value.bool.injEq, Value.int.injEq, Value.string.injEq, List.all_append, List.map_append, *]; (try rfl); done)) (lives_con) ?_
        | refine vplain ?_
        | refine vdraws (by kernel_rfl) ?_
        | refine vbuildS (by simp only [tyb, elemOf_s]) (by simp only [tyb, elemOf_s, List.length_cons, List.length_nil, List.all_cons, List.all_nil, Value.oneCell', Bool.and_self, Nat.reduceAdd, Nat.reduceMul, Nat.reduceLeDiff, Nat.reduceLT, true_and, and_true, and_self, Nat.lt_add_one, Nat.zero_mul, Nat.zero_le, Nat.one_mul]) ?_
        | refine vcond ?_
        | refine awp_exit ?_
        | refine awp_skip ?_
        | refine And.intro (by first | omega | assumption | exact setOk_ge (by decide +kernel) | exact setOk_late (by decide +kernel) (by (simp (disch := omega) only [sx0, sx1, sx2, sx3, sx4, sx5, sx6, isBytes, ATy.isAgg, ATy.known, tyb, Nat.reduceAdd, Nat.reduceMul, Nat.reduceEqDiff, Nat.reduceLT, Nat.reduceLeDiff, ↓reduceIte, implies_true, decide_true, decide_false, ne_eq, Value.oneCell', Int.reduceToNat, ite_self, beq_self_eq_true, bne_self_eq_false, gt_iff_lt, Int.reduceEq, Int.reduceLT, Int.reduceLE, Int.reduceNe, List.forall_mem_cons, false_implies, forall_const, natS, *]; rfl)) (by refine wkR_row ?_; repeat' (first | exact trivial | refine wkL_c (by decide +kernel) ?_)) | exact Nat.le_of_ble_eq_true (by kernel_rfl)) ?_
        | refine nqif_ways (fun h => ?_) ?_
        | ((first | refine gif_ways (fun h => ?_) (fun h => ?_) | refine cif_ways (fun h => ?_) (fun h => ?_)) <;> (try simp only [decide_eq_true_eq, decide_eq_false_iff_not, Bool.not_eq_true', Bool.not_eq_false', Bool.not_true, Bool.not_false] at h) <;> (try (exfalso; omega)))) <;> (try (simp (disch := omega) only [sx0, sx1, sx2, sx3, sx4, sx5, sx6, isBytes, ATy.isAgg, ATy.known, tyb, Nat.reduceAdd, Nat.reduceMul, Nat.reduceEqDiff, Nat.reduceLT, Nat.reduceLeDiff, ↓reduceIte, implies_true, decide_true, decide_false, ne_eq, Value.oneCell', Int.reduceToNat, ite_self, beq_self_eq_true, bne_self_eq_false, gt_iff_lt, Int.reduceEq, Int.reduceLT, Int.reduceLE, Int.reduceNe, List.forall_mem_cons, false_implies, forall_const, *])))))
    all_goals simp only [sxc, sx6, z0, p0, Nat.reduceEqDiff, ↓reduceIte, AV.ex.injEq, Value.bool.injEq, Value.int.injEq, Value.string.injEq, List.all_append, List.map_append, Tryd.f6, *]
  · (repeat' (first
    | refine awp_seq ?_
    | refine awp_block ?_
    | (refine awp_ret ?_; simp only [then_ret, block_ret, end_ret])
    | ((first
        | refine call_val (by first | (simp only [sxc, sx6, z0, p0, Nat.reduceEqDiff, ↓reduceIte, AV.ex.injEq, Value.bool.injEq, Value.int.injEq, Value.string.injEq, List.all_append, List.map_append]; (try rfl); done) | (simp only [sxc, sx6, z0, p0, Nat.reduceEqDiff, ↓reduceIte, AV.ex.injEq, Value.bool.injEq, Value.int.injEq, Value.string.injEq, List.all_append, List.map_append, *]; (try rfl); done)) (lives_con) ?_
        | refine vplain ?_
        | refine vdraws (by kernel_rfl) ?_
        | refine vbuildS (by simp only [tyb, elemOf_s]) (by simp only [tyb, elemOf_s, List.length_cons, List.length_nil, List.all_cons, List.all_nil, Value.oneCell', Bool.and_self, Nat.reduceAdd, Nat.reduceMul, Nat.reduceLeDiff, Nat.reduceLT, true_and, and_true, and_self, Nat.lt_add_one, Nat.zero_mul, Nat.zero_le, Nat.one_mul]) ?_
        | refine vcond ?_
        | refine awp_exit ?_
        | refine awp_skip ?_
        | refine And.intro (by first | omega | assumption | exact setOk_ge (by decide +kernel) | exact setOk_late (by decide +kernel) (by (simp (disch := omega) only [sx0, sx1, sx2, sx3, sx4, sx5, sx6, isBytes, ATy.isAgg, ATy.known, tyb, Nat.reduceAdd, Nat.reduceMul, Nat.reduceEqDiff, Nat.reduceLT, Nat.reduceLeDiff, ↓reduceIte, implies_true, decide_true, decide_false, ne_eq, Value.oneCell', Int.reduceToNat, ite_self, beq_self_eq_true, bne_self_eq_false, gt_iff_lt, Int.reduceEq, Int.reduceLT, Int.reduceLE, Int.reduceNe, List.forall_mem_cons, false_implies, forall_const, natS, *]; rfl)) (by refine wkR_row ?_; repeat' (first | exact trivial | refine wkL_c (by decide +kernel) ?_)) | exact Nat.le_of_ble_eq_true (by kernel_rfl)) ?_
        | refine nqif_ways (fun h => ?_) ?_
        | ((first | refine gif_ways (fun h => ?_) (fun h => ?_) | refine cif_ways (fun h => ?_) (fun h => ?_)) <;> (try simp only [decide_eq_true_eq, decide_eq_false_iff_not, Bool.not_eq_true', Bool.not_eq_false', Bool.not_true, Bool.not_false] at h) <;> (try (exfalso; omega)))) <;> (try (simp (disch := omega) only [sx0, sx1, sx2, sx3, sx4, sx5, sx6, isBytes, ATy.isAgg, ATy.known, tyb, Nat.reduceAdd, Nat.reduceMul, Nat.reduceEqDiff, Nat.reduceLT, Nat.reduceLeDiff, ↓reduceIte, implies_true, decide_true, decide_false, ne_eq, Value.oneCell', Int.reduceToNat, ite_self, beq_self_eq_true, bne_self_eq_false, gt_iff_lt, Int.reduceEq, Int.reduceLT, Int.reduceLE, Int.reduceNe, List.forall_mem_cons, false_implies, forall_const, *])))))
    all_goals simp only [sxc, sx6, z0, p0, Nat.reduceEqDiff, ↓reduceIte, AV.ex.injEq, Value.bool.injEq, Value.int.injEq, Value.string.injEq, List.all_append, List.map_append, Tryd.f6, *]
theorem MoneyCodes_con (s : ByteArray) (hs : s.size ≤ 140737488355328) : Con Tryd.prog Ctx 4 [.ex (.string s)] (.val (.ex (.bool true))) := by
  have hs' : s.size ≤ 9223372036854775807 := by omega
  refine con_val base Tryd.func4 rfl rfl (by kernel_rfl) (Nat.le_of_ble_eq_true rfl) ?_
  rw [init_eq]
  by_cases h : s.size ≤ 100
  · (repeat' (first
    | refine awp_seq ?_
    | refine awp_block ?_
    | (refine awp_ret ?_; simp only [then_ret, block_ret, end_ret])
    | ((first
        | refine call_val (by first | (simp only [sxc, sx6, z0, p0, Nat.reduceEqDiff, ↓reduceIte, AV.ex.injEq, Value.bool.injEq, Value.int.injEq, Value.string.injEq, List.all_append, List.map_append]; (try rfl); done) | (simp only [sxc, sx6, z0, p0, Nat.reduceEqDiff, ↓reduceIte, AV.ex.injEq, Value.bool.injEq, Value.int.injEq, Value.string.injEq, List.all_append, List.map_append, *]; (try rfl); done)) (Code_con s hs') ?_
        | refine call_val (by first | (simp only [sxc, sx6, z0, p0, Nat.reduceEqDiff, ↓reduceIte, AV.ex.injEq, Value.bool.injEq, Value.int.injEq, Value.string.injEq, List.all_append, List.map_append]; (try rfl); done) | (simp only [sxc, sx6, z0, p0, Nat.reduceEqDiff, ↓reduceIte, AV.ex.injEq, Value.bool.injEq, Value.int.injEq, Value.string.injEq, List.all_append, List.map_append, *]; (try rfl); done)) (RCode_con s hs') ?_
        | refine call_val (by first | (simp only [sxc, sx6, z0, p0, Nat.reduceEqDiff, ↓reduceIte, AV.ex.injEq, Value.bool.injEq, Value.int.injEq, Value.string.injEq, List.all_append, List.map_append]; (try rfl); done) | (simp only [sxc, sx6, z0, p0, Nat.reduceEqDiff, ↓reduceIte, AV.ex.injEq, Value.bool.injEq, Value.int.injEq, Value.string.injEq, List.all_append, List.map_append, *]; (try rfl); done)) (lives_con) ?_
        | refine vplain ?_
        | refine vdraws (by kernel_rfl) ?_
        | refine vbuildS (by simp only [tyb, elemOf_s]) (by simp only [tyb, elemOf_s, List.length_cons, List.length_nil, List.all_cons, List.all_nil, Value.oneCell', Bool.and_self, Nat.reduceAdd, Nat.reduceMul, Nat.reduceLeDiff, Nat.reduceLT, true_and, and_true, and_self, Nat.lt_add_one, Nat.zero_mul, Nat.zero_le, Nat.one_mul]) ?_
        | refine vcond ?_
        | refine awp_exit ?_
        | refine awp_skip ?_
        | refine And.intro (by first | omega | assumption | exact setOk_ge (by decide +kernel) | exact setOk_late (by decide +kernel) (by (simp (disch := omega) only [sx0, sx1, sx2, sx3, sx4, sx5, sx6, isBytes, ATy.isAgg, ATy.known, tyb, Nat.reduceAdd, Nat.reduceMul, Nat.reduceEqDiff, Nat.reduceLT, Nat.reduceLeDiff, ↓reduceIte, implies_true, decide_true, decide_false, ne_eq, Value.oneCell', Int.reduceToNat, ite_self, beq_self_eq_true, bne_self_eq_false, gt_iff_lt, Int.reduceEq, Int.reduceLT, Int.reduceLE, Int.reduceNe, List.forall_mem_cons, false_implies, forall_const, natS, *]; rfl)) (by refine wkR_row ?_; repeat' (first | exact trivial | refine wkL_c (by decide +kernel) ?_)) | exact Nat.le_of_ble_eq_true (by kernel_rfl)) ?_
        | refine nqif_ways (fun h => ?_) ?_
        | ((first | refine gif_ways (fun h => ?_) (fun h => ?_) | refine cif_ways (fun h => ?_) (fun h => ?_)) <;> (try simp only [decide_eq_true_eq, decide_eq_false_iff_not, Bool.not_eq_true', Bool.not_eq_false', Bool.not_true, Bool.not_false] at h) <;> (try (exfalso; omega)))) <;> (try (simp (disch := omega) only [sx0, sx1, sx2, sx3, sx4, sx5, sx6, isBytes, ATy.isAgg, ATy.known, tyb, Nat.reduceAdd, Nat.reduceMul, Nat.reduceEqDiff, Nat.reduceLT, Nat.reduceLeDiff, ↓reduceIte, implies_true, decide_true, decide_false, ne_eq, Value.oneCell', Int.reduceToNat, ite_self, beq_self_eq_true, bne_self_eq_false, gt_iff_lt, Int.reduceEq, Int.reduceLT, Int.reduceLE, Int.reduceNe, List.forall_mem_cons, false_implies, forall_const, *])))))
    all_goals simp only [sxc, sx6, z0, p0, Nat.reduceEqDiff, ↓reduceIte, AV.ex.injEq, Value.bool.injEq, Value.int.injEq, Value.string.injEq, List.all_append, List.map_append, Tryd.f4, *]
  · (repeat' (first
    | refine awp_seq ?_
    | refine awp_block ?_
    | (refine awp_ret ?_; simp only [then_ret, block_ret, end_ret])
    | ((first
        | refine call_val (by first | (simp only [sxc, sx6, z0, p0, Nat.reduceEqDiff, ↓reduceIte, AV.ex.injEq, Value.bool.injEq, Value.int.injEq, Value.string.injEq, List.all_append, List.map_append]; (try rfl); done) | (simp only [sxc, sx6, z0, p0, Nat.reduceEqDiff, ↓reduceIte, AV.ex.injEq, Value.bool.injEq, Value.int.injEq, Value.string.injEq, List.all_append, List.map_append, *]; (try rfl); done)) (lives_con) ?_
        | refine vplain ?_
        | refine vdraws (by kernel_rfl) ?_
        | refine vbuildS (by simp only [tyb, elemOf_s]) (by simp only [tyb, elemOf_s, List.length_cons, List.length_nil, List.all_cons, List.all_nil, Value.oneCell', Bool.and_self, Nat.reduceAdd, Nat.reduceMul, Nat.reduceLeDiff, Nat.reduceLT, true_and, and_true, and_self, Nat.lt_add_one, Nat.zero_mul, Nat.zero_le, Nat.one_mul]) ?_
        | refine vcond ?_
        | refine awp_exit ?_
        | refine awp_skip ?_
        | refine And.intro (by first | omega | assumption | exact setOk_ge (by decide +kernel) | exact setOk_late (by decide +kernel) (by (simp (disch := omega) only [sx0, sx1, sx2, sx3, sx4, sx5, sx6, isBytes, ATy.isAgg, ATy.known, tyb, Nat.reduceAdd, Nat.reduceMul, Nat.reduceEqDiff, Nat.reduceLT, Nat.reduceLeDiff, ↓reduceIte, implies_true, decide_true, decide_false, ne_eq, Value.oneCell', Int.reduceToNat, ite_self, beq_self_eq_true, bne_self_eq_false, gt_iff_lt, Int.reduceEq, Int.reduceLT, Int.reduceLE, Int.reduceNe, List.forall_mem_cons, false_implies, forall_const, natS, *]; rfl)) (by refine wkR_row ?_; repeat' (first | exact trivial | refine wkL_c (by decide +kernel) ?_)) | exact Nat.le_of_ble_eq_true (by kernel_rfl)) ?_
        | refine nqif_ways (fun h => ?_) ?_
        | ((first | refine gif_ways (fun h => ?_) (fun h => ?_) | refine cif_ways (fun h => ?_) (fun h => ?_)) <;> (try simp only [decide_eq_true_eq, decide_eq_false_iff_not, Bool.not_eq_true', Bool.not_eq_false', Bool.not_true, Bool.not_false] at h) <;> (try (exfalso; omega)))) <;> (try (simp (disch := omega) only [sx0, sx1, sx2, sx3, sx4, sx5, sx6, isBytes, ATy.isAgg, ATy.known, tyb, Nat.reduceAdd, Nat.reduceMul, Nat.reduceEqDiff, Nat.reduceLT, Nat.reduceLeDiff, ↓reduceIte, implies_true, decide_true, decide_false, ne_eq, Value.oneCell', Int.reduceToNat, ite_self, beq_self_eq_true, bne_self_eq_false, gt_iff_lt, Int.reduceEq, Int.reduceLT, Int.reduceLE, Int.reduceNe, List.forall_mem_cons, false_implies, forall_const, *])))))
    all_goals simp only [sxc, sx6, z0, p0, Nat.reduceEqDiff, ↓reduceIte, AV.ex.injEq, Value.bool.injEq, Value.int.injEq, Value.string.injEq, List.all_append, List.map_append, Tryd.f4, *]

theorem back_next {l : List Int} {j : Nat} (hj : j < l.length) : l[l.length - 1 - j]? = some (l[l.length - 1 - j]'(by omega)) ∧ (l.reverse).take (j + 1) = (l.reverse).take j ++ [l[l.length - 1 - j]'(by omega)] := by
  have e0 : l[l.length - 1 - j]? = some (l[l.length - 1 - j]'(by omega)) := List.getElem?_eq_getElem (by omega)
  refine ⟨e0, ?_⟩
  rw [List.take_add_one, List.getElem?_reverse hj, e0]; rfl
theorem MoneySums_con (l : List Int) (hl : l.length ≤ 140737488355328) : Con Tryd.prog Ctx 3 [.sl (ints l)] (.val (.ex (.bool true))) := by
  refine con_val base Tryd.func3 rfl rfl (by kernel_rfl) (Nat.le_of_ble_eq_true rfl) ?_
  rw [init_eq]
  have q1 := ints_len l
  by_cases h : l.length ≤ 5000
  · (repeat' (first
    | refine awp_seq ?_
    | refine awp_block ?_
    | (refine awp_ret ?_; simp only [then_ret, block_ret, end_ret])
    | ((first
        | refine vplain ?_
        | refine vdraws (by kernel_rfl) ?_
        | refine vbuildS (by simp only [tyb, elemOf_s]) (by simp only [tyb, elemOf_s, List.length_cons, List.length_nil, List.all_cons, List.all_nil, Value.oneCell', Bool.and_self, Nat.reduceAdd, Nat.reduceMul, Nat.reduceLeDiff, Nat.reduceLT, true_and, and_true, and_self, Nat.lt_add_one, Nat.zero_mul, Nat.zero_le, Nat.one_mul]) ?_
        | refine vcond ?_
        | refine awp_exit ?_
        | refine awp_skip ?_
        | refine And.intro (by first | omega | assumption | exact setOk_ge (by decide +kernel) | exact setOk_late (by decide +kernel) (by (simp (disch := omega) only [sx0, sx1, sx2, sx3, sx4, sx5, sx6, isBytes, ATy.isAgg, ATy.known, tyb, Nat.reduceAdd, Nat.reduceMul, Nat.reduceEqDiff, Nat.reduceLT, Nat.reduceLeDiff, ↓reduceIte, implies_true, decide_true, decide_false, ne_eq, Value.oneCell', Int.reduceToNat, ite_self, beq_self_eq_true, bne_self_eq_false, gt_iff_lt, Int.reduceEq, Int.reduceLT, Int.reduceLE, Int.reduceNe, List.forall_mem_cons, false_implies, forall_const, natS, *]; rfl)) (by refine wkR_row ?_; repeat' (first | exact trivial | refine wkL_c (by decide +kernel) ?_)) | exact Nat.le_of_ble_eq_true (by kernel_rfl)) ?_
        | refine nqif_ways (fun h => ?_) ?_
        | ((first | refine gif_ways (fun h => ?_) (fun h => ?_) | refine cif_ways (fun h => ?_) (fun h => ?_)) <;> (try simp only [decide_eq_true_eq, decide_eq_false_iff_not, Bool.not_eq_true', Bool.not_eq_false', Bool.not_true, Bool.not_false] at h) <;> (try (exfalso; omega)))) <;> (try (simp (disch := omega) only [sx0, sx1, sx2, sx3, sx4, sx5, sx6, isBytes, ATy.isAgg, ATy.known, tyb, Nat.reduceAdd, Nat.reduceMul, Nat.reduceEqDiff, Nat.reduceLT, Nat.reduceLeDiff, ↓reduceIte, implies_true, decide_true, decide_false, ne_eq, Value.oneCell', Int.reduceToNat, ite_self, beq_self_eq_true, bne_self_eq_false, gt_iff_lt, Int.reduceEq, Int.reduceLT, Int.reduceLE, Int.reduceNe, List.forall_mem_cons, false_implies, forall_const, *])))))
    refine vloop (fun n tm hp nx => ∃ (j b : Nat) (acc : List Int), n = l.length - j ∧ j ≤ l.length ∧ tm 0 = .sl (ints l) ∧ tm 4 = .ex (.int .i64 ((l.length : Int) - 1 - j)) ∧ acc.length ≤ j ∧ Hid (acc = (l.reverse).take j) ∧ tm 3 = .own b ∧ hp b = some ⟨3, ints acc, true⟩ ∧ b < nx) l.length ⟨0, _, [], rfl, Nat.zero_le _, by (first | rfl | (simp (disch := omega) only [sx0, sx1, sx2, sx3, sx4, sx5, sx6, isBytes, ATy.isAgg, ATy.known, tyb, Nat.reduceAdd, Nat.reduceMul, Nat.reduceEqDiff, Nat.reduceLT, Nat.reduceLeDiff, ↓reduceIte, implies_true, decide_true, decide_false, ne_eq, Value.oneCell', Int.reduceToNat, ite_self, beq_self_eq_true, bne_self_eq_false, gt_iff_lt, Int.reduceEq, Int.reduceLT, Int.reduceLE, Int.reduceNe, List.forall_mem_cons, false_implies, forall_const, natS, *])), by (simp (disch := omega) only [sx0, sx1, sx2, sx3, sx4, sx5, sx6, isBytes, ATy.isAgg, ATy.known, tyb, Nat.reduceAdd, Nat.reduceMul, Nat.reduceEqDiff, Nat.reduceLT, Nat.reduceLeDiff, ↓reduceIte, implies_true, decide_true, decide_false, ne_eq, Value.oneCell', Int.reduceToNat, ite_self, beq_self_eq_true, bne_self_eq_false, gt_iff_lt, Int.reduceEq, Int.reduceLT, Int.reduceLE, Int.reduceNe, List.forall_mem_cons, false_implies, forall_const, natS, *]; congr 2; omega), Nat.zero_le _, Lib.hid (by rw [List.take_zero]), by (simp (disch := omega) only [sx0, sx1, sx2, sx3, sx4, sx5, sx6, isBytes, ATy.isAgg, ATy.known, tyb, Nat.reduceAdd, Nat.reduceMul, Nat.reduceEqDiff, Nat.reduceLT, Nat.reduceLeDiff, ↓reduceIte, implies_true, decide_true, decide_false, ne_eq, Value.oneCell', Int.reduceToNat, ite_self, beq_self_eq_true, bne_self_eq_false, gt_iff_lt, Int.reduceEq, Int.reduceLT, Int.reduceLE, Int.reduceNe, List.forall_mem_cons, false_implies, forall_const, natS, *]; (try rfl)), by (simp (disch := omega) only [sx0, sx1, sx2, sx3, sx4, sx5, sx6, isBytes, ATy.isAgg, ATy.known, tyb, Nat.reduceAdd, Nat.reduceMul, Nat.reduceEqDiff, Nat.reduceLT, Nat.reduceLeDiff, ↓reduceIte, implies_true, decide_true, decide_false, ne_eq, Value.oneCell', Int.reduceToNat, ite_self, beq_self_eq_true, bne_self_eq_false, gt_iff_lt, Int.reduceEq, Int.reduceLT, Int.reduceLE, Int.reduceNe, List.forall_mem_cons, false_implies, forall_const, natS, *]; (try rfl)), by omega⟩ ?_
    rintro n tm hp nx ⟨j, b, acc, hn, hjl, g0, g4, hac, hH, g3, g9, hb⟩
    have q3 := ints_len acc
    by_cases hlt : j < l.length
    · obtain ⟨e0, e1⟩ := back_next hlt
      generalize l[l.length - 1 - j] = x at e0 e1
      have q4 := ints_get e0
      have t1 : ((l.length : Int) - 1 - j).toNat = l.length - 1 - j := by omega
      have hnx := Lib.hid (show acc ++ [x] = (l.reverse).take (j + 1) by rw [e1, hH.out])
      have q6 := ints_app1 acc x
      clear e0 e1
      (repeat' (first
    | refine awp_seq ?_
    | refine awp_block ?_
    | (refine awp_ret ?_; simp only [then_ret, block_ret, end_ret])
    | ((first
        | refine vplain ?_
        | refine vdraws (by kernel_rfl) ?_
        | refine vbuildS (by simp only [tyb, elemOf_s]) (by simp only [tyb, elemOf_s, List.length_cons, List.length_nil, List.all_cons, List.all_nil, Value.oneCell', Bool.and_self, Nat.reduceAdd, Nat.reduceMul, Nat.reduceLeDiff, Nat.reduceLT, true_and, and_true, and_self, Nat.lt_add_one, Nat.zero_mul, Nat.zero_le, Nat.one_mul]) ?_
        | refine vcond ?_
        | refine awp_exit ?_
        | refine awp_skip ?_
        | refine And.intro (by first | omega | assumption | exact setOk_ge (by decide +kernel) | exact setOk_late (by decide +kernel) (by (simp (disch := omega) only [sx0, sx1, sx2, sx3, sx4, sx5, sx6, isBytes, ATy.isAgg, ATy.known, tyb, Nat.reduceAdd, Nat.reduceMul, Nat.reduceEqDiff, Nat.reduceLT, Nat.reduceLeDiff, ↓reduceIte, implies_true, decide_true, decide_false, ne_eq, Value.oneCell', Int.reduceToNat, ite_self, beq_self_eq_true, bne_self_eq_false, gt_iff_lt, Int.reduceEq, Int.reduceLT, Int.reduceLE, Int.reduceNe, List.forall_mem_cons, false_implies, forall_const, natS, *]; rfl)) (by refine wkR_row ?_; repeat' (first | exact trivial | refine wkL_c (by decide +kernel) ?_)) | exact Nat.le_of_ble_eq_true (by kernel_rfl)) ?_
        | refine nqif_ways (fun h => ?_) ?_
        | ((first | refine gif_ways (fun h => ?_) (fun h => ?_) | refine cif_ways (fun h => ?_) (fun h => ?_)) <;> (try simp only [decide_eq_true_eq, decide_eq_false_iff_not, Bool.not_eq_true', Bool.not_eq_false', Bool.not_true, Bool.not_false] at h) <;> (try (exfalso; omega)))) <;> (try (simp (disch := omega) only [sx0, sx1, sx2, sx3, sx4, sx5, sx6, isBytes, ATy.isAgg, ATy.known, tyb, Nat.reduceAdd, Nat.reduceMul, Nat.reduceEqDiff, Nat.reduceLT, Nat.reduceLeDiff, ↓reduceIte, implies_true, decide_true, decide_false, ne_eq, Value.oneCell', Int.reduceToNat, ite_self, beq_self_eq_true, bne_self_eq_false, gt_iff_lt, Int.reduceEq, Int.reduceLT, Int.reduceLE, Int.reduceNe, List.forall_mem_cons, false_implies, forall_const, *])))))
      exact kround_i (l.length - (j + 1)) (by omega) ⟨j + 1, _, acc ++ [x], rfl, by omega, by (first | rfl | (simp (disch := omega) only [sx0, sx1, sx2, sx3, sx4, sx5, sx6, isBytes, ATy.isAgg, ATy.known, tyb, Nat.reduceAdd, Nat.reduceMul, Nat.reduceEqDiff, Nat.reduceLT, Nat.reduceLeDiff, ↓reduceIte, implies_true, decide_true, decide_false, ne_eq, Value.oneCell', Int.reduceToNat, ite_self, beq_self_eq_true, bne_self_eq_false, gt_iff_lt, Int.reduceEq, Int.reduceLT, Int.reduceLE, Int.reduceNe, List.forall_mem_cons, false_implies, forall_const, natS, *])), by (simp (disch := omega) only [sx0, sx1, sx2, sx3, sx4, sx5, sx6, isBytes, ATy.isAgg, ATy.known, tyb, Nat.reduceAdd, Nat.reduceMul, Nat.reduceEqDiff, Nat.reduceLT, Nat.reduceLeDiff, ↓reduceIte, implies_true, decide_true, decide_false, ne_eq, Value.oneCell', Int.reduceToNat, ite_self, beq_self_eq_true, bne_self_eq_false, gt_iff_lt, Int.reduceEq, Int.reduceLT, Int.reduceLE, Int.reduceNe, List.forall_mem_cons, false_implies, forall_const, natS, *]; congr 2; omega), by simp; omega, hnx, by (simp (disch := omega) only [sx0, sx1, sx2, sx3, sx4, sx5, sx6, isBytes, ATy.isAgg, ATy.known, tyb, Nat.reduceAdd, Nat.reduceMul, Nat.reduceEqDiff, Nat.reduceLT, Nat.reduceLeDiff, ↓reduceIte, implies_true, decide_true, decide_false, ne_eq, Value.oneCell', Int.reduceToNat, ite_self, beq_self_eq_true, bne_self_eq_false, gt_iff_lt, Int.reduceEq, Int.reduceLT, Int.reduceLE, Int.reduceNe, List.forall_mem_cons, false_implies, forall_const, natS, *]; (try rfl)), by (simp (disch := omega) only [sx0, sx1, sx2, sx3, sx4, sx5, sx6, isBytes, ATy.isAgg, ATy.known, tyb, Nat.reduceAdd, Nat.reduceMul, Nat.reduceEqDiff, Nat.reduceLT, Nat.reduceLeDiff, ↓reduceIte, implies_true, decide_true, decide_false, ne_eq, Value.oneCell', Int.reduceToNat, ite_self, beq_self_eq_true, bne_self_eq_false, gt_iff_lt, Int.reduceEq, Int.reduceLT, Int.reduceLE, Int.reduceNe, List.forall_mem_cons, false_implies, forall_const, natS, *]; (try rfl)), by omega⟩
    · have hj : acc = l.reverse := by rw [hH.out, List.take_of_length_le (by rw [List.length_reverse]; omega)]
      have q7 := ints_p0 acc
      have q8 := ints_z0 acc
      have e1 : sumV acc = sumV l := by rw [hj, sumV_rev]
      have e2 : sumE acc = sumE l := by rw [hj, sumE_rev]
      have c3 := Sum_con acc (by omega)
      rw [e1, e2] at c3
      clear hj e1 e2
      (repeat' (first
    | refine awp_seq ?_
    | refine awp_block ?_
    | (refine awp_ret ?_; simp only [then_ret, block_ret, end_ret])
    | ((first
        | refine call_val (by first | (simp only [sxc, sx6, z0, p0, Nat.reduceEqDiff, ↓reduceIte, AV.ex.injEq, Value.bool.injEq, Value.int.injEq, Value.string.injEq, List.all_append, List.map_append]; (try rfl); done) | (simp only [sxc, sx6, z0, p0, Nat.reduceEqDiff, ↓reduceIte, AV.ex.injEq, Value.bool.injEq, Value.int.injEq, Value.string.injEq, List.all_append, List.map_append, *]; (try rfl); done)) (c3) ?_
        | refine call_val (by first | (simp only [sxc, sx6, z0, p0, Nat.reduceEqDiff, ↓reduceIte, AV.ex.injEq, Value.bool.injEq, Value.int.injEq, Value.string.injEq, List.all_append, List.map_append]; (try rfl); done) | (simp only [sxc, sx6, z0, p0, Nat.reduceEqDiff, ↓reduceIte, AV.ex.injEq, Value.bool.injEq, Value.int.injEq, Value.string.injEq, List.all_append, List.map_append, *]; (try rfl); done)) (Sum_con l (by omega)) ?_
        | refine call_val (by first | (simp only [sxc, sx6, z0, p0, Nat.reduceEqDiff, ↓reduceIte, AV.ex.injEq, Value.bool.injEq, Value.int.injEq, Value.string.injEq, List.all_append, List.map_append]; (try rfl); done) | (simp only [sxc, sx6, z0, p0, Nat.reduceEqDiff, ↓reduceIte, AV.ex.injEq, Value.bool.injEq, Value.int.injEq, Value.string.injEq, List.all_append, List.map_append, *]; (try rfl); done)) (RSum_con l (by omega)) ?_
        | refine call_val (by first | (simp only [sxc, sx6, z0, p0, Nat.reduceEqDiff, ↓reduceIte, AV.ex.injEq, Value.bool.injEq, Value.int.injEq, Value.string.injEq, List.all_append, List.map_append]; (try rfl); done) | (simp only [sxc, sx6, z0, p0, Nat.reduceEqDiff, ↓reduceIte, AV.ex.injEq, Value.bool.injEq, Value.int.injEq, Value.string.injEq, List.all_append, List.map_append, *]; (try rfl); done)) (lives_con) ?_
        | refine vplain ?_
        | refine vdraws (by kernel_rfl) ?_
        | refine vbuildS (by simp only [tyb, elemOf_s]) (by simp only [tyb, elemOf_s, List.length_cons, List.length_nil, List.all_cons, List.all_nil, Value.oneCell', Bool.and_self, Nat.reduceAdd, Nat.reduceMul, Nat.reduceLeDiff, Nat.reduceLT, true_and, and_true, and_self, Nat.lt_add_one, Nat.zero_mul, Nat.zero_le, Nat.one_mul]) ?_
        | refine vcond ?_
        | refine awp_exit ?_
        | refine awp_skip ?_
        | refine And.intro (by first | omega | assumption | exact setOk_ge (by decide +kernel) | exact setOk_late (by decide +kernel) (by (simp (disch := omega) only [sx0, sx1, sx2, sx3, sx4, sx5, sx6, isBytes, ATy.isAgg, ATy.known, tyb, Nat.reduceAdd, Nat.reduceMul, Nat.reduceEqDiff, Nat.reduceLT, Nat.reduceLeDiff, ↓reduceIte, implies_true, decide_true, decide_false, ne_eq, Value.oneCell', Int.reduceToNat, ite_self, beq_self_eq_true, bne_self_eq_false, gt_iff_lt, Int.reduceEq, Int.reduceLT, Int.reduceLE, Int.reduceNe, List.forall_mem_cons, false_implies, forall_const, natS, *]; rfl)) (by refine wkR_row ?_; repeat' (first | exact trivial | refine wkL_c (by decide +kernel) ?_)) | exact Nat.le_of_ble_eq_true (by kernel_rfl)) ?_
        | refine nqif_ways (fun h => ?_) ?_
        | ((first | refine gif_ways (fun h => ?_) (fun h => ?_) | refine cif_ways (fun h => ?_) (fun h => ?_)) <;> (try simp only [decide_eq_true_eq, decide_eq_false_iff_not, Bool.not_eq_true', Bool.not_eq_false', Bool.not_true, Bool.not_false] at h) <;> (try (exfalso; omega)))) <;> (try (simp (disch := omega) only [sx0, sx1, sx2, sx3, sx4, sx5, sx6, isBytes, ATy.isAgg, ATy.known, tyb, Nat.reduceAdd, Nat.reduceMul, Nat.reduceEqDiff, Nat.reduceLT, Nat.reduceLeDiff, ↓reduceIte, implies_true, decide_true, decide_false, ne_eq, Value.oneCell', Int.reduceToNat, ite_self, beq_self_eq_true, bne_self_eq_false, gt_iff_lt, Int.reduceEq, Int.reduceLT, Int.reduceLE, Int.reduceNe, List.forall_mem_cons, false_implies, forall_const, *])))))
      all_goals simp only [sxc, sx6, z0, p0, Nat.reduceEqDiff, ↓reduceIte, AV.ex.injEq, Value.bool.injEq, Value.int.injEq, Value.string.injEq, List.all_append, List.map_append, Tryd.f3, *]
  · (repeat' (first
    | refine awp_seq ?_
    | refine awp_block ?_
    | (refine awp_ret ?_; simp only [then_ret, block_ret, end_ret])
    | ((first
        | refine call_val (by first | (simp only [sxc, sx6, z0, p0, Nat.reduceEqDiff, ↓reduceIte, AV.ex.injEq, Value.bool.injEq, Value.int.injEq, Value.string.injEq, List.all_append, List.map_append]; (try rfl); done) | (simp only [sxc, sx6, z0, p0, Nat.reduceEqDiff, ↓reduceIte, AV.ex.injEq, Value.bool.injEq, Value.int.injEq, Value.string.injEq, List.all_append, List.map_append, *]; (try rfl); done)) (lives_con) ?_
        | refine vplain ?_
        | refine vdraws (by kernel_rfl) ?_
        | refine vbuildS (by simp only [tyb, elemOf_s]) (by simp only [tyb, elemOf_s, List.length_cons, List.length_nil, List.all_cons, List.all_nil, Value.oneCell', Bool.and_self, Nat.reduceAdd, Nat.reduceMul, Nat.reduceLeDiff, Nat.reduceLT, true_and, and_true, and_self, Nat.lt_add_one, Nat.zero_mul, Nat.zero_le, Nat.one_mul]) ?_
        | refine vcond ?_
        | refine awp_exit ?_
        | refine awp_skip ?_
        | refine And.intro (by first | omega | assumption | exact setOk_ge (by decide +kernel) | exact setOk_late (by decide +kernel) (by (simp (disch := omega) only [sx0, sx1, sx2, sx3, sx4, sx5, sx6, isBytes, ATy.isAgg, ATy.known, tyb, Nat.reduceAdd, Nat.reduceMul, Nat.reduceEqDiff, Nat.reduceLT, Nat.reduceLeDiff, ↓reduceIte, implies_true, decide_true, decide_false, ne_eq, Value.oneCell', Int.reduceToNat, ite_self, beq_self_eq_true, bne_self_eq_false, gt_iff_lt, Int.reduceEq, Int.reduceLT, Int.reduceLE, Int.reduceNe, List.forall_mem_cons, false_implies, forall_const, natS, *]; rfl)) (by refine wkR_row ?_; repeat' (first | exact trivial | refine wkL_c (by decide +kernel) ?_)) | exact Nat.le_of_ble_eq_true (by kernel_rfl)) ?_
        | refine nqif_ways (fun h => ?_) ?_
        | ((first | refine gif_ways (fun h => ?_) (fun h => ?_) | refine cif_ways (fun h => ?_) (fun h => ?_)) <;> (try simp only [decide_eq_true_eq, decide_eq_false_iff_not, Bool.not_eq_true', Bool.not_eq_false', Bool.not_true, Bool.not_false] at h) <;> (try (exfalso; omega)))) <;> (try (simp (disch := omega) only [sx0, sx1, sx2, sx3, sx4, sx5, sx6, isBytes, ATy.isAgg, ATy.known, tyb, Nat.reduceAdd, Nat.reduceMul, Nat.reduceEqDiff, Nat.reduceLT, Nat.reduceLeDiff, ↓reduceIte, implies_true, decide_true, decide_false, ne_eq, Value.oneCell', Int.reduceToNat, ite_self, beq_self_eq_true, bne_self_eq_false, gt_iff_lt, Int.reduceEq, Int.reduceLT, Int.reduceLE, Int.reduceNe, List.forall_mem_cons, false_implies, forall_const, *])))))
    all_goals simp only [sxc, sx6, z0, p0, Nat.reduceEqDiff, ↓reduceIte, AV.ex.injEq, Value.bool.injEq, Value.int.injEq, Value.string.injEq, List.all_append, List.map_append, Tryd.f3, *]

theorem format_len (a : Int) (d : Nat) (ha : valid3 a = true) (hd : d ≤ 4) : (⟨(formatT a d).toArray⟩ : ByteArray).size ≤ 140737488355328 := by
  rw [← size_toList]
  show (formatT a d).length ≤ _
  obtain ⟨v1, v2⟩ := valid3_iff.1 ha
  have hs : (signL a).length ≤ 1 := by unfold signL; split <;> simp
  have h1 := dec_len a.natAbs (by omega)
  have h2 : a.natAbs / 10 ^ d ≤ a.natAbs := Nat.div_le_self _ _
  have h3 := dec_len (a.natAbs / 10 ^ d) (by omega)
  have h4 := lowD_len a.natAbs d
  unfold formatT
  split
  · rw [List.length_append]; omega
  · rw [List.length_append, List.length_append, List.length_cons]; omega
/-- What Format gives, Parse takes. -/
theorem rt_left (a d : Int) (hd : -9223372036854775808 ≤ d) : (∃ t : ByteArray, Con Tryd.prog Ctx 15 [.ex (.int .i64 a), .ex (.int .i64 d)] (.val (.tup [.ex (.string t), .ex (.int .i64 0)])) ∧ Con Tryd.prog Ctx 17 [.ex (.string t), .ex (.int .i64 d)] (.val (.tup [.ex (.int .i64 a), .ex (.int .i64 0)]))) ∨
    Con Tryd.prog Ctx 15 [.ex (.int .i64 a), .ex (.int .i64 d)] (.val (.tup [.ex (.string ⟨#[]⟩), .ex (.int .i64 1)])) := by
  have h := Format_con a d hd
  by_cases hv : valid3 a = true ∧ placesB d = true
  · obtain ⟨h1, h2⟩ := hv
    obtain ⟨d1, d2⟩ := placesB_iff.1 h2
    obtain ⟨e, rfl⟩ : ∃ e : Nat, d = e := ⟨d.toNat, by omega⟩
    obtain ⟨r1, r2⟩ := format_ok h1 h2
    rw [r1, r2] at h
    have hp := Parse_con ⟨(formatT a e).toArray⟩ e (format_len a e h1 (by omega))
    obtain ⟨p1, p2⟩ := parse_format h1 h2
    rw [Int.toNat_natCast] at p1 p2
    rw [show (⟨(formatT a e).toArray⟩ : ByteArray).data.toList = formatT a e from rfl, p1, p2] at hp
    exact .inl ⟨_, h, hp⟩
  · obtain ⟨r1, r2⟩ := format_no (a := a) (d := d) (by
      cases h1 : valid3 a
      · exact .inl rfl
      · cases h2 : placesB d
        · exact .inr rfl
        · exact absurd ⟨h1, h2⟩ hv)
    rw [r1, r2] at h
    exact .inr h
/-- What Parse takes, Format gives. -/
theorem rt_right (s : ByteArray) (d : Int) (hs : s.size ≤ 140737488355328) (hd : -9223372036854775808 ≤ d) : (∃ n : Int, Con Tryd.prog Ctx 17 [.ex (.string s), .ex (.int .i64 d)] (.val (.tup [.ex (.int .i64 n), .ex (.int .i64 0)])) ∧ Con Tryd.prog Ctx 15 [.ex (.int .i64 n), .ex (.int .i64 d)] (.val (.tup [.ex (.string s), .ex (.int .i64 0)])) ∧ Con Tryd.prog Ctx 19 [.ex (.int .i64 n)] (.val (.ex (.bool true)))) ∨
    ∃ e : Int, e ≠ 0 ∧ Con Tryd.prog Ctx 17 [.ex (.string s), .ex (.int .i64 d)] (.val (.tup [.ex (.int .i64 0), .ex (.int .i64 e)])) := by
  have h := Parse_con s d hs
  by_cases he : parseE s.data.toList d = 0
  · obtain ⟨h1, h2, h3⟩ := format_parse he
    rw [he] at h
    have hf := Format_con (parseV s.data.toList d) d hd
    obtain ⟨d1, d2⟩ := placesB_iff.1 h1
    obtain ⟨e, rfl⟩ : ∃ e : Nat, d = e := ⟨d.toNat, by omega⟩
    obtain ⟨r1, r2⟩ := format_ok h2 h1
    rw [Int.toNat_natCast] at h3
    rw [r1, r2, h3] at hf
    have hv := Valid_con (parseV s.data.toList e)
    rw [h2] at hv
    exact .inl ⟨_, h, by simpa using hf, hv⟩
  · rw [parse_zero he] at h
    exact .inr ⟨_, he, h⟩
theorem MoneyRoundTrips_con (a d : Int) (s : ByteArray) (hd : -9223372036854775808 ≤ d) (hs : s.size ≤ 140737488355328) : Con Tryd.prog Ctx 7 [.ex (.int .i64 a), .ex (.int .i64 d), .ex (.string s)] (.val (.ex (.bool true))) := by
  refine con_val base Tryd.func7 rfl rfl (by kernel_rfl) (Nat.le_of_ble_eq_true rfl) ?_
  rw [init_eq]
  rcases rt_left a d hd with ⟨t, f1, f2⟩ | f1
  · by_cases h : s.size ≤ 100
    · rcases rt_right s d hs hd with ⟨n, g1, g2, g3⟩ | ⟨e, he, g1⟩
      · (repeat' (first
    | refine awp_seq ?_
    | refine awp_block ?_
    | (refine awp_ret ?_; simp only [then_ret, block_ret, end_ret])
    | ((first
        | refine call_val (by first | (simp only [sxc, sx6, z0, p0, Nat.reduceEqDiff, ↓reduceIte, AV.ex.injEq, Value.bool.injEq, Value.int.injEq, Value.string.injEq, List.all_append, List.map_append]; (try rfl); done) | (simp only [sxc, sx6, z0, p0, Nat.reduceEqDiff, ↓reduceIte, AV.ex.injEq, Value.bool.injEq, Value.int.injEq, Value.string.injEq, List.all_append, List.map_append, *]; (try rfl); done)) (f1) ?_
        | refine call_val (by first | (simp only [sxc, sx6, z0, p0, Nat.reduceEqDiff, ↓reduceIte, AV.ex.injEq, Value.bool.injEq, Value.int.injEq, Value.string.injEq, List.all_append, List.map_append]; (try rfl); done) | (simp only [sxc, sx6, z0, p0, Nat.reduceEqDiff, ↓reduceIte, AV.ex.injEq, Value.bool.injEq, Value.int.injEq, Value.string.injEq, List.all_append, List.map_append, *]; (try rfl); done)) (f2) ?_
        | refine call_val (by first | (simp only [sxc, sx6, z0, p0, Nat.reduceEqDiff, ↓reduceIte, AV.ex.injEq, Value.bool.injEq, Value.int.injEq, Value.string.injEq, List.all_append, List.map_append]; (try rfl); done) | (simp only [sxc, sx6, z0, p0, Nat.reduceEqDiff, ↓reduceIte, AV.ex.injEq, Value.bool.injEq, Value.int.injEq, Value.string.injEq, List.all_append, List.map_append, *]; (try rfl); done)) (g1) ?_
        | refine call_val (by first | (simp only [sxc, sx6, z0, p0, Nat.reduceEqDiff, ↓reduceIte, AV.ex.injEq, Value.bool.injEq, Value.int.injEq, Value.string.injEq, List.all_append, List.map_append]; (try rfl); done) | (simp only [sxc, sx6, z0, p0, Nat.reduceEqDiff, ↓reduceIte, AV.ex.injEq, Value.bool.injEq, Value.int.injEq, Value.string.injEq, List.all_append, List.map_append, *]; (try rfl); done)) (g2) ?_
        | refine call_val (by first | (simp only [sxc, sx6, z0, p0, Nat.reduceEqDiff, ↓reduceIte, AV.ex.injEq, Value.bool.injEq, Value.int.injEq, Value.string.injEq, List.all_append, List.map_append]; (try rfl); done) | (simp only [sxc, sx6, z0, p0, Nat.reduceEqDiff, ↓reduceIte, AV.ex.injEq, Value.bool.injEq, Value.int.injEq, Value.string.injEq, List.all_append, List.map_append, *]; (try rfl); done)) (g3) ?_
        | refine call_val (by first | (simp only [sxc, sx6, z0, p0, Nat.reduceEqDiff, ↓reduceIte, AV.ex.injEq, Value.bool.injEq, Value.int.injEq, Value.string.injEq, List.all_append, List.map_append]; (try rfl); done) | (simp only [sxc, sx6, z0, p0, Nat.reduceEqDiff, ↓reduceIte, AV.ex.injEq, Value.bool.injEq, Value.int.injEq, Value.string.injEq, List.all_append, List.map_append, *]; (try rfl); done)) (lives_con) ?_
        | refine vplain ?_
        | refine vdraws (by kernel_rfl) ?_
        | refine vbuildS (by simp only [tyb, elemOf_s]) (by simp only [tyb, elemOf_s, List.length_cons, List.length_nil, List.all_cons, List.all_nil, Value.oneCell', Bool.and_self, Nat.reduceAdd, Nat.reduceMul, Nat.reduceLeDiff, Nat.reduceLT, true_and, and_true, and_self, Nat.lt_add_one, Nat.zero_mul, Nat.zero_le, Nat.one_mul]) ?_
        | refine vcond ?_
        | refine awp_exit ?_
        | refine awp_skip ?_
        | refine And.intro (by first | omega | assumption | exact setOk_ge (by decide +kernel) | exact setOk_late (by decide +kernel) (by (simp (disch := omega) only [sx0, sx1, sx2, sx3, sx4, sx5, sx6, isBytes, ATy.isAgg, ATy.known, tyb, Nat.reduceAdd, Nat.reduceMul, Nat.reduceEqDiff, Nat.reduceLT, Nat.reduceLeDiff, ↓reduceIte, implies_true, decide_true, decide_false, ne_eq, Value.oneCell', Int.reduceToNat, ite_self, beq_self_eq_true, bne_self_eq_false, gt_iff_lt, Int.reduceEq, Int.reduceLT, Int.reduceLE, Int.reduceNe, List.forall_mem_cons, false_implies, forall_const, natS, *]; rfl)) (by refine wkR_row ?_; repeat' (first | exact trivial | refine wkL_c (by decide +kernel) ?_)) | exact Nat.le_of_ble_eq_true (by kernel_rfl)) ?_
        | refine nqif_ways (fun h => ?_) ?_
        | ((first | refine gif_ways (fun h => ?_) (fun h => ?_) | refine cif_ways (fun h => ?_) (fun h => ?_)) <;> (try simp only [decide_eq_true_eq, decide_eq_false_iff_not, Bool.not_eq_true', Bool.not_eq_false', Bool.not_true, Bool.not_false] at h) <;> (try (exfalso; omega)))) <;> (try (simp (disch := omega) only [sx0, sx1, sx2, sx3, sx4, sx5, sx6, isBytes, ATy.isAgg, ATy.known, tyb, Nat.reduceAdd, Nat.reduceMul, Nat.reduceEqDiff, Nat.reduceLT, Nat.reduceLeDiff, ↓reduceIte, implies_true, decide_true, decide_false, ne_eq, Value.oneCell', Int.reduceToNat, ite_self, beq_self_eq_true, bne_self_eq_false, gt_iff_lt, Int.reduceEq, Int.reduceLT, Int.reduceLE, Int.reduceNe, List.forall_mem_cons, false_implies, forall_const, *])))))
        all_goals simp only [sxc, sx6, z0, p0, Nat.reduceEqDiff, ↓reduceIte, AV.ex.injEq, Value.bool.injEq, Value.int.injEq, Value.string.injEq, List.all_append, List.map_append, Tryd.f7, *]
      · (repeat' (first
    | refine awp_seq ?_
    | refine awp_block ?_
    | (refine awp_ret ?_; simp only [then_ret, block_ret, end_ret])
    | ((first
        | refine call_val (by first | (simp only [sxc, sx6, z0, p0, Nat.reduceEqDiff, ↓reduceIte, AV.ex.injEq, Value.bool.injEq, Value.int.injEq, Value.string.injEq, List.all_append, List.map_append]; (try rfl); done) | (simp only [sxc, sx6, z0, p0, Nat.reduceEqDiff, ↓reduceIte, AV.ex.injEq, Value.bool.injEq, Value.int.injEq, Value.string.injEq, List.all_append, List.map_append, *]; (try rfl); done)) (f1) ?_
        | refine call_val (by first | (simp only [sxc, sx6, z0, p0, Nat.reduceEqDiff, ↓reduceIte, AV.ex.injEq, Value.bool.injEq, Value.int.injEq, Value.string.injEq, List.all_append, List.map_append]; (try rfl); done) | (simp only [sxc, sx6, z0, p0, Nat.reduceEqDiff, ↓reduceIte, AV.ex.injEq, Value.bool.injEq, Value.int.injEq, Value.string.injEq, List.all_append, List.map_append, *]; (try rfl); done)) (f2) ?_
        | refine call_val (by first | (simp only [sxc, sx6, z0, p0, Nat.reduceEqDiff, ↓reduceIte, AV.ex.injEq, Value.bool.injEq, Value.int.injEq, Value.string.injEq, List.all_append, List.map_append]; (try rfl); done) | (simp only [sxc, sx6, z0, p0, Nat.reduceEqDiff, ↓reduceIte, AV.ex.injEq, Value.bool.injEq, Value.int.injEq, Value.string.injEq, List.all_append, List.map_append, *]; (try rfl); done)) (g1) ?_
        | refine call_val (by first | (simp only [sxc, sx6, z0, p0, Nat.reduceEqDiff, ↓reduceIte, AV.ex.injEq, Value.bool.injEq, Value.int.injEq, Value.string.injEq, List.all_append, List.map_append]; (try rfl); done) | (simp only [sxc, sx6, z0, p0, Nat.reduceEqDiff, ↓reduceIte, AV.ex.injEq, Value.bool.injEq, Value.int.injEq, Value.string.injEq, List.all_append, List.map_append, *]; (try rfl); done)) (lives_con) ?_
        | refine vplain ?_
        | refine vdraws (by kernel_rfl) ?_
        | refine vbuildS (by simp only [tyb, elemOf_s]) (by simp only [tyb, elemOf_s, List.length_cons, List.length_nil, List.all_cons, List.all_nil, Value.oneCell', Bool.and_self, Nat.reduceAdd, Nat.reduceMul, Nat.reduceLeDiff, Nat.reduceLT, true_and, and_true, and_self, Nat.lt_add_one, Nat.zero_mul, Nat.zero_le, Nat.one_mul]) ?_
        | refine vcond ?_
        | refine awp_exit ?_
        | refine awp_skip ?_
        | refine And.intro (by first | omega | assumption | exact setOk_ge (by decide +kernel) | exact setOk_late (by decide +kernel) (by (simp (disch := omega) only [sx0, sx1, sx2, sx3, sx4, sx5, sx6, isBytes, ATy.isAgg, ATy.known, tyb, Nat.reduceAdd, Nat.reduceMul, Nat.reduceEqDiff, Nat.reduceLT, Nat.reduceLeDiff, ↓reduceIte, implies_true, decide_true, decide_false, ne_eq, Value.oneCell', Int.reduceToNat, ite_self, beq_self_eq_true, bne_self_eq_false, gt_iff_lt, Int.reduceEq, Int.reduceLT, Int.reduceLE, Int.reduceNe, List.forall_mem_cons, false_implies, forall_const, natS, *]; rfl)) (by refine wkR_row ?_; repeat' (first | exact trivial | refine wkL_c (by decide +kernel) ?_)) | exact Nat.le_of_ble_eq_true (by kernel_rfl)) ?_
        | refine nqif_ways (fun h => ?_) ?_
        | ((first | refine gif_ways (fun h => ?_) (fun h => ?_) | refine cif_ways (fun h => ?_) (fun h => ?_)) <;> (try simp only [decide_eq_true_eq, decide_eq_false_iff_not, Bool.not_eq_true', Bool.not_eq_false', Bool.not_true, Bool.not_false] at h) <;> (try (exfalso; omega)))) <;> (try (simp (disch := omega) only [sx0, sx1, sx2, sx3, sx4, sx5, sx6, isBytes, ATy.isAgg, ATy.known, tyb, Nat.reduceAdd, Nat.reduceMul, Nat.reduceEqDiff, Nat.reduceLT, Nat.reduceLeDiff, ↓reduceIte, implies_true, decide_true, decide_false, ne_eq, Value.oneCell', Int.reduceToNat, ite_self, beq_self_eq_true, bne_self_eq_false, gt_iff_lt, Int.reduceEq, Int.reduceLT, Int.reduceLE, Int.reduceNe, List.forall_mem_cons, false_implies, forall_const, *])))))
        all_goals simp only [sxc, sx6, z0, p0, Nat.reduceEqDiff, ↓reduceIte, AV.ex.injEq, Value.bool.injEq, Value.int.injEq, Value.string.injEq, List.all_append, List.map_append, Tryd.f7, *]
    · (repeat' (first
    | refine awp_seq ?_
    | refine awp_block ?_
    | (refine awp_ret ?_; simp only [then_ret, block_ret, end_ret])
    | ((first
        | refine call_val (by first | (simp only [sxc, sx6, z0, p0, Nat.reduceEqDiff, ↓reduceIte, AV.ex.injEq, Value.bool.injEq, Value.int.injEq, Value.string.injEq, List.all_append, List.map_append]; (try rfl); done) | (simp only [sxc, sx6, z0, p0, Nat.reduceEqDiff, ↓reduceIte, AV.ex.injEq, Value.bool.injEq, Value.int.injEq, Value.string.injEq, List.all_append, List.map_append, *]; (try rfl); done)) (f1) ?_
        | refine call_val (by first | (simp only [sxc, sx6, z0, p0, Nat.reduceEqDiff, ↓reduceIte, AV.ex.injEq, Value.bool.injEq, Value.int.injEq, Value.string.injEq, List.all_append, List.map_append]; (try rfl); done) | (simp only [sxc, sx6, z0, p0, Nat.reduceEqDiff, ↓reduceIte, AV.ex.injEq, Value.bool.injEq, Value.int.injEq, Value.string.injEq, List.all_append, List.map_append, *]; (try rfl); done)) (f2) ?_
        | refine call_val (by first | (simp only [sxc, sx6, z0, p0, Nat.reduceEqDiff, ↓reduceIte, AV.ex.injEq, Value.bool.injEq, Value.int.injEq, Value.string.injEq, List.all_append, List.map_append]; (try rfl); done) | (simp only [sxc, sx6, z0, p0, Nat.reduceEqDiff, ↓reduceIte, AV.ex.injEq, Value.bool.injEq, Value.int.injEq, Value.string.injEq, List.all_append, List.map_append, *]; (try rfl); done)) (lives_con) ?_
        | refine vplain ?_
        | refine vdraws (by kernel_rfl) ?_
        | refine vbuildS (by simp only [tyb, elemOf_s]) (by simp only [tyb, elemOf_s, List.length_cons, List.length_nil, List.all_cons, List.all_nil, Value.oneCell', Bool.and_self, Nat.reduceAdd, Nat.reduceMul, Nat.reduceLeDiff, Nat.reduceLT, true_and, and_true, and_self, Nat.lt_add_one, Nat.zero_mul, Nat.zero_le, Nat.one_mul]) ?_
        | refine vcond ?_
        | refine awp_exit ?_
        | refine awp_skip ?_
        | refine And.intro (by first | omega | assumption | exact setOk_ge (by decide +kernel) | exact setOk_late (by decide +kernel) (by (simp (disch := omega) only [sx0, sx1, sx2, sx3, sx4, sx5, sx6, isBytes, ATy.isAgg, ATy.known, tyb, Nat.reduceAdd, Nat.reduceMul, Nat.reduceEqDiff, Nat.reduceLT, Nat.reduceLeDiff, ↓reduceIte, implies_true, decide_true, decide_false, ne_eq, Value.oneCell', Int.reduceToNat, ite_self, beq_self_eq_true, bne_self_eq_false, gt_iff_lt, Int.reduceEq, Int.reduceLT, Int.reduceLE, Int.reduceNe, List.forall_mem_cons, false_implies, forall_const, natS, *]; rfl)) (by refine wkR_row ?_; repeat' (first | exact trivial | refine wkL_c (by decide +kernel) ?_)) | exact Nat.le_of_ble_eq_true (by kernel_rfl)) ?_
        | refine nqif_ways (fun h => ?_) ?_
        | ((first | refine gif_ways (fun h => ?_) (fun h => ?_) | refine cif_ways (fun h => ?_) (fun h => ?_)) <;> (try simp only [decide_eq_true_eq, decide_eq_false_iff_not, Bool.not_eq_true', Bool.not_eq_false', Bool.not_true, Bool.not_false] at h) <;> (try (exfalso; omega)))) <;> (try (simp (disch := omega) only [sx0, sx1, sx2, sx3, sx4, sx5, sx6, isBytes, ATy.isAgg, ATy.known, tyb, Nat.reduceAdd, Nat.reduceMul, Nat.reduceEqDiff, Nat.reduceLT, Nat.reduceLeDiff, ↓reduceIte, implies_true, decide_true, decide_false, ne_eq, Value.oneCell', Int.reduceToNat, ite_self, beq_self_eq_true, bne_self_eq_false, gt_iff_lt, Int.reduceEq, Int.reduceLT, Int.reduceLE, Int.reduceNe, List.forall_mem_cons, false_implies, forall_const, *])))))
      all_goals simp only [sxc, sx6, z0, p0, Nat.reduceEqDiff, ↓reduceIte, AV.ex.injEq, Value.bool.injEq, Value.int.injEq, Value.string.injEq, List.all_append, List.map_append, Tryd.f7, *]
  · by_cases h : s.size ≤ 100
    · rcases rt_right s d hs hd with ⟨n, g1, g2, g3⟩ | ⟨e, he, g1⟩
      · (repeat' (first
    | refine awp_seq ?_
    | refine awp_block ?_
    | (refine awp_ret ?_; simp only [then_ret, block_ret, end_ret])
    | ((first
        | refine call_val (by first | (simp only [sxc, sx6, z0, p0, Nat.reduceEqDiff, ↓reduceIte, AV.ex.injEq, Value.bool.injEq, Value.int.injEq, Value.string.injEq, List.all_append, List.map_append]; (try rfl); done) | (simp only [sxc, sx6, z0, p0, Nat.reduceEqDiff, ↓reduceIte, AV.ex.injEq, Value.bool.injEq, Value.int.injEq, Value.string.injEq, List.all_append, List.map_append, *]; (try rfl); done)) (f1) ?_
        | refine call_val (by first | (simp only [sxc, sx6, z0, p0, Nat.reduceEqDiff, ↓reduceIte, AV.ex.injEq, Value.bool.injEq, Value.int.injEq, Value.string.injEq, List.all_append, List.map_append]; (try rfl); done) | (simp only [sxc, sx6, z0, p0, Nat.reduceEqDiff, ↓reduceIte, AV.ex.injEq, Value.bool.injEq, Value.int.injEq, Value.string.injEq, List.all_append, List.map_append, *]; (try rfl); done)) (g1) ?_
        | refine call_val (by first | (simp only [sxc, sx6, z0, p0, Nat.reduceEqDiff, ↓reduceIte, AV.ex.injEq, Value.bool.injEq, Value.int.injEq, Value.string.injEq, List.all_append, List.map_append]; (try rfl); done) | (simp only [sxc, sx6, z0, p0, Nat.reduceEqDiff, ↓reduceIte, AV.ex.injEq, Value.bool.injEq, Value.int.injEq, Value.string.injEq, List.all_append, List.map_append, *]; (try rfl); done)) (g2) ?_
        | refine call_val (by first | (simp only [sxc, sx6, z0, p0, Nat.reduceEqDiff, ↓reduceIte, AV.ex.injEq, Value.bool.injEq, Value.int.injEq, Value.string.injEq, List.all_append, List.map_append]; (try rfl); done) | (simp only [sxc, sx6, z0, p0, Nat.reduceEqDiff, ↓reduceIte, AV.ex.injEq, Value.bool.injEq, Value.int.injEq, Value.string.injEq, List.all_append, List.map_append, *]; (try rfl); done)) (g3) ?_
        | refine call_val (by first | (simp only [sxc, sx6, z0, p0, Nat.reduceEqDiff, ↓reduceIte, AV.ex.injEq, Value.bool.injEq, Value.int.injEq, Value.string.injEq, List.all_append, List.map_append]; (try rfl); done) | (simp only [sxc, sx6, z0, p0, Nat.reduceEqDiff, ↓reduceIte, AV.ex.injEq, Value.bool.injEq, Value.int.injEq, Value.string.injEq, List.all_append, List.map_append, *]; (try rfl); done)) (lives_con) ?_
        | refine vplain ?_
        | refine vdraws (by kernel_rfl) ?_
        | refine vbuildS (by simp only [tyb, elemOf_s]) (by simp only [tyb, elemOf_s, List.length_cons, List.length_nil, List.all_cons, List.all_nil, Value.oneCell', Bool.and_self, Nat.reduceAdd, Nat.reduceMul, Nat.reduceLeDiff, Nat.reduceLT, true_and, and_true, and_self, Nat.lt_add_one, Nat.zero_mul, Nat.zero_le, Nat.one_mul]) ?_
        | refine vcond ?_
        | refine awp_exit ?_
        | refine awp_skip ?_
        | refine And.intro (by first | omega | assumption | exact setOk_ge (by decide +kernel) | exact setOk_late (by decide +kernel) (by (simp (disch := omega) only [sx0, sx1, sx2, sx3, sx4, sx5, sx6, isBytes, ATy.isAgg, ATy.known, tyb, Nat.reduceAdd, Nat.reduceMul, Nat.reduceEqDiff, Nat.reduceLT, Nat.reduceLeDiff, ↓reduceIte, implies_true, decide_true, decide_false, ne_eq, Value.oneCell', Int.reduceToNat, ite_self, beq_self_eq_true, bne_self_eq_false, gt_iff_lt, Int.reduceEq, Int.reduceLT, Int.reduceLE, Int.reduceNe, List.forall_mem_cons, false_implies, forall_const, natS, *]; rfl)) (by refine wkR_row ?_; repeat' (first | exact trivial | refine wkL_c (by decide +kernel) ?_)) | exact Nat.le_of_ble_eq_true (by kernel_rfl)) ?_
        | refine nqif_ways (fun h => ?_) ?_
        | ((first | refine gif_ways (fun h => ?_) (fun h => ?_) | refine cif_ways (fun h => ?_) (fun h => ?_)) <;> (try simp only [decide_eq_true_eq, decide_eq_false_iff_not, Bool.not_eq_true', Bool.not_eq_false', Bool.not_true, Bool.not_false] at h) <;> (try (exfalso; omega)))) <;> (try (simp (disch := omega) only [sx0, sx1, sx2, sx3, sx4, sx5, sx6, isBytes, ATy.isAgg, ATy.known, tyb, Nat.reduceAdd, Nat.reduceMul, Nat.reduceEqDiff, Nat.reduceLT, Nat.reduceLeDiff, ↓reduceIte, implies_true, decide_true, decide_false, ne_eq, Value.oneCell', Int.reduceToNat, ite_self, beq_self_eq_true, bne_self_eq_false, gt_iff_lt, Int.reduceEq, Int.reduceLT, Int.reduceLE, Int.reduceNe, List.forall_mem_cons, false_implies, forall_const, *])))))
        all_goals simp only [sxc, sx6, z0, p0, Nat.reduceEqDiff, ↓reduceIte, AV.ex.injEq, Value.bool.injEq, Value.int.injEq, Value.string.injEq, List.all_append, List.map_append, Tryd.f7, *]
      · (repeat' (first
    | refine awp_seq ?_
    | refine awp_block ?_
    | (refine awp_ret ?_; simp only [then_ret, block_ret, end_ret])
    | ((first
        | refine call_val (by first | (simp only [sxc, sx6, z0, p0, Nat.reduceEqDiff, ↓reduceIte, AV.ex.injEq, Value.bool.injEq, Value.int.injEq, Value.string.injEq, List.all_append, List.map_append]; (try rfl); done) | (simp only [sxc, sx6, z0, p0, Nat.reduceEqDiff, ↓reduceIte, AV.ex.injEq, Value.bool.injEq, Value.int.injEq, Value.string.injEq, List.all_append, List.map_append, *]; (try rfl); done)) (f1) ?_
        | refine call_val (by first | (simp only [sxc, sx6, z0, p0, Nat.reduceEqDiff, ↓reduceIte, AV.ex.injEq, Value.bool.injEq, Value.int.injEq, Value.string.injEq, List.all_append, List.map_append]; (try rfl); done) | (simp only [sxc, sx6, z0, p0, Nat.reduceEqDiff, ↓reduceIte, AV.ex.injEq, Value.bool.injEq, Value.int.injEq, Value.string.injEq, List.all_append, List.map_append, *]; (try rfl); done)) (g1) ?_
        | refine call_val (by first | (simp only [sxc, sx6, z0, p0, Nat.reduceEqDiff, ↓reduceIte, AV.ex.injEq, Value.bool.injEq, Value.int.injEq, Value.string.injEq, List.all_append, List.map_append]; (try rfl); done) | (simp only [sxc, sx6, z0, p0, Nat.reduceEqDiff, ↓reduceIte, AV.ex.injEq, Value.bool.injEq, Value.int.injEq, Value.string.injEq, List.all_append, List.map_append, *]; (try rfl); done)) (lives_con) ?_
        | refine vplain ?_
        | refine vdraws (by kernel_rfl) ?_
        | refine vbuildS (by simp only [tyb, elemOf_s]) (by simp only [tyb, elemOf_s, List.length_cons, List.length_nil, List.all_cons, List.all_nil, Value.oneCell', Bool.and_self, Nat.reduceAdd, Nat.reduceMul, Nat.reduceLeDiff, Nat.reduceLT, true_and, and_true, and_self, Nat.lt_add_one, Nat.zero_mul, Nat.zero_le, Nat.one_mul]) ?_
        | refine vcond ?_
        | refine awp_exit ?_
        | refine awp_skip ?_
        | refine And.intro (by first | omega | assumption | exact setOk_ge (by decide +kernel) | exact setOk_late (by decide +kernel) (by (simp (disch := omega) only [sx0, sx1, sx2, sx3, sx4, sx5, sx6, isBytes, ATy.isAgg, ATy.known, tyb, Nat.reduceAdd, Nat.reduceMul, Nat.reduceEqDiff, Nat.reduceLT, Nat.reduceLeDiff, ↓reduceIte, implies_true, decide_true, decide_false, ne_eq, Value.oneCell', Int.reduceToNat, ite_self, beq_self_eq_true, bne_self_eq_false, gt_iff_lt, Int.reduceEq, Int.reduceLT, Int.reduceLE, Int.reduceNe, List.forall_mem_cons, false_implies, forall_const, natS, *]; rfl)) (by refine wkR_row ?_; repeat' (first | exact trivial | refine wkL_c (by decide +kernel) ?_)) | exact Nat.le_of_ble_eq_true (by kernel_rfl)) ?_
        | refine nqif_ways (fun h => ?_) ?_
        | ((first | refine gif_ways (fun h => ?_) (fun h => ?_) | refine cif_ways (fun h => ?_) (fun h => ?_)) <;> (try simp only [decide_eq_true_eq, decide_eq_false_iff_not, Bool.not_eq_true', Bool.not_eq_false', Bool.not_true, Bool.not_false] at h) <;> (try (exfalso; omega)))) <;> (try (simp (disch := omega) only [sx0, sx1, sx2, sx3, sx4, sx5, sx6, isBytes, ATy.isAgg, ATy.known, tyb, Nat.reduceAdd, Nat.reduceMul, Nat.reduceEqDiff, Nat.reduceLT, Nat.reduceLeDiff, ↓reduceIte, implies_true, decide_true, decide_false, ne_eq, Value.oneCell', Int.reduceToNat, ite_self, beq_self_eq_true, bne_self_eq_false, gt_iff_lt, Int.reduceEq, Int.reduceLT, Int.reduceLE, Int.reduceNe, List.forall_mem_cons, false_implies, forall_const, *])))))
        all_goals simp only [sxc, sx6, z0, p0, Nat.reduceEqDiff, ↓reduceIte, AV.ex.injEq, Value.bool.injEq, Value.int.injEq, Value.string.injEq, List.all_append, List.map_append, Tryd.f7, *]
    · (repeat' (first
    | refine awp_seq ?_
    | refine awp_block ?_
    | (refine awp_ret ?_; simp only [then_ret, block_ret, end_ret])
    | ((first
        | refine call_val (by first | (simp only [sxc, sx6, z0, p0, Nat.reduceEqDiff, ↓reduceIte, AV.ex.injEq, Value.bool.injEq, Value.int.injEq, Value.string.injEq, List.all_append, List.map_append]; (try rfl); done) | (simp only [sxc, sx6, z0, p0, Nat.reduceEqDiff, ↓reduceIte, AV.ex.injEq, Value.bool.injEq, Value.int.injEq, Value.string.injEq, List.all_append, List.map_append, *]; (try rfl); done)) (f1) ?_
        | refine call_val (by first | (simp only [sxc, sx6, z0, p0, Nat.reduceEqDiff, ↓reduceIte, AV.ex.injEq, Value.bool.injEq, Value.int.injEq, Value.string.injEq, List.all_append, List.map_append]; (try rfl); done) | (simp only [sxc, sx6, z0, p0, Nat.reduceEqDiff, ↓reduceIte, AV.ex.injEq, Value.bool.injEq, Value.int.injEq, Value.string.injEq, List.all_append, List.map_append, *]; (try rfl); done)) (lives_con) ?_
        | refine vplain ?_
        | refine vdraws (by kernel_rfl) ?_
        | refine vbuildS (by simp only [tyb, elemOf_s]) (by simp only [tyb, elemOf_s, List.length_cons, List.length_nil, List.all_cons, List.all_nil, Value.oneCell', Bool.and_self, Nat.reduceAdd, Nat.reduceMul, Nat.reduceLeDiff, Nat.reduceLT, true_and, and_true, and_self, Nat.lt_add_one, Nat.zero_mul, Nat.zero_le, Nat.one_mul]) ?_
        | refine vcond ?_
        | refine awp_exit ?_
        | refine awp_skip ?_
        | refine And.intro (by first | omega | assumption | exact setOk_ge (by decide +kernel) | exact setOk_late (by decide +kernel) (by (simp (disch := omega) only [sx0, sx1, sx2, sx3, sx4, sx5, sx6, isBytes, ATy.isAgg, ATy.known, tyb, Nat.reduceAdd, Nat.reduceMul, Nat.reduceEqDiff, Nat.reduceLT, Nat.reduceLeDiff, ↓reduceIte, implies_true, decide_true, decide_false, ne_eq, Value.oneCell', Int.reduceToNat, ite_self, beq_self_eq_true, bne_self_eq_false, gt_iff_lt, Int.reduceEq, Int.reduceLT, Int.reduceLE, Int.reduceNe, List.forall_mem_cons, false_implies, forall_const, natS, *]; rfl)) (by refine wkR_row ?_; repeat' (first | exact trivial | refine wkL_c (by decide +kernel) ?_)) | exact Nat.le_of_ble_eq_true (by kernel_rfl)) ?_
        | refine nqif_ways (fun h => ?_) ?_
        | ((first | refine gif_ways (fun h => ?_) (fun h => ?_) | refine cif_ways (fun h => ?_) (fun h => ?_)) <;> (try simp only [decide_eq_true_eq, decide_eq_false_iff_not, Bool.not_eq_true', Bool.not_eq_false', Bool.not_true, Bool.not_false] at h) <;> (try (exfalso; omega)))) <;> (try (simp (disch := omega) only [sx0, sx1, sx2, sx3, sx4, sx5, sx6, isBytes, ATy.isAgg, ATy.known, tyb, Nat.reduceAdd, Nat.reduceMul, Nat.reduceEqDiff, Nat.reduceLT, Nat.reduceLeDiff, ↓reduceIte, implies_true, decide_true, decide_false, ne_eq, Value.oneCell', Int.reduceToNat, ite_self, beq_self_eq_true, bne_self_eq_false, gt_iff_lt, Int.reduceEq, Int.reduceLT, Int.reduceLE, Int.reduceNe, List.forall_mem_cons, false_implies, forall_const, *])))))
      all_goals simp only [sxc, sx6, z0, p0, Nat.reduceEqDiff, ↓reduceIte, AV.ex.injEq, Value.bool.injEq, Value.int.injEq, Value.string.injEq, List.all_append, List.map_append, Tryd.f7, *]

theorem cur_eqAt (x : ByteArray) (b : Int) (x' : ByteArray) (b' : Int) : eqAt Tryd.prog 10 40 [.ex (.string x), .ex (.int .i64 b)] [.ex (.string x'), .ex (.int .i64 b')] = some (decide (x = x') && (decide (b = b') && true)) := by kernel_rfl
theorem cur_eq (x : ByteArray) (b : Int) : AggEq Tryd.prog 40 [.ex (.string x), .ex (.int .i64 b)] [.ex (.string x), .ex (.int .i64 b)] true :=
  aggEq_of (d := 10) (by decide) Tryd.underlying40 (by kernel_rfl) (by rw [cur_eqAt]; simp)
theorem MoneyChecks_con (l : List CurV) (code : ByteArray) (hl : l.length ≤ 140737488355328) (hw : ∀ c ∈ l, c.code.size ≤ 140737488355328) : Con Tryd.prog Ctx 9 [.sl (curs l), .ex (.string code)] (.val (.ex (.bool true))) := by
  have hw2 : ∀ c ∈ l, c.code.size ≤ 9223372036854775807 := fun c hc => Nat.le_trans (hw c hc) (by decide)
  have c1 := Check_con l (by omega) hw2
  have c2 := RCheck_con l (by omega) hw2
  have c3 := Find_con l code (by omega)
  have c4 := RFind_con l code (by omega)
  have c5 := Lib.hid (fun x => Find_con l x (by omega))
  clear hw hw2
  refine con_val base Tryd.func9 rfl rfl (by kernel_rfl) (Nat.le_of_ble_eq_true rfl) ?_
  rw [init_eq]
  have q1 := curs_len l
  by_cases h : l.length ≤ 20
  · by_cases he : checkE l = 0
    · have hch : Hid (chk none l = 0) := Lib.hid (by
        unfold checkE at he
        split at he
        · exact he
        · cases he)
      rw [he] at c1 c2
      (repeat' (first
    | refine awp_seq ?_
    | refine awp_block ?_
    | (refine awp_ret ?_; simp only [then_ret, block_ret, end_ret])
    | ((first
        | refine aeq_i (cur_eq (findC l code).code (findC l code).digits) ?_
        | refine call_val (by first | (simp only [sxc, sx6, z0, p0, Nat.reduceEqDiff, ↓reduceIte, AV.ex.injEq, Value.bool.injEq, Value.int.injEq, Value.string.injEq, List.all_append, List.map_append]; (try rfl); done) | (simp only [sxc, sx6, z0, p0, Nat.reduceEqDiff, ↓reduceIte, AV.ex.injEq, Value.bool.injEq, Value.int.injEq, Value.string.injEq, List.all_append, List.map_append, *]; (try rfl); done)) (c1) ?_
        | refine call_val (by first | (simp only [sxc, sx6, z0, p0, Nat.reduceEqDiff, ↓reduceIte, AV.ex.injEq, Value.bool.injEq, Value.int.injEq, Value.string.injEq, List.all_append, List.map_append]; (try rfl); done) | (simp only [sxc, sx6, z0, p0, Nat.reduceEqDiff, ↓reduceIte, AV.ex.injEq, Value.bool.injEq, Value.int.injEq, Value.string.injEq, List.all_append, List.map_append, *]; (try rfl); done)) (c2) ?_
        | refine call_val (by first | (simp only [sxc, sx6, z0, p0, Nat.reduceEqDiff, ↓reduceIte, AV.ex.injEq, Value.bool.injEq, Value.int.injEq, Value.string.injEq, List.all_append, List.map_append]; (try rfl); done) | (simp only [sxc, sx6, z0, p0, Nat.reduceEqDiff, ↓reduceIte, AV.ex.injEq, Value.bool.injEq, Value.int.injEq, Value.string.injEq, List.all_append, List.map_append, *]; (try rfl); done)) (c3) ?_
        | refine call_val (by first | (simp only [sxc, sx6, z0, p0, Nat.reduceEqDiff, ↓reduceIte, AV.ex.injEq, Value.bool.injEq, Value.int.injEq, Value.string.injEq, List.all_append, List.map_append]; (try rfl); done) | (simp only [sxc, sx6, z0, p0, Nat.reduceEqDiff, ↓reduceIte, AV.ex.injEq, Value.bool.injEq, Value.int.injEq, Value.string.injEq, List.all_append, List.map_append, *]; (try rfl); done)) (c4) ?_
        | refine vplain ?_
        | refine vdraws (by kernel_rfl) ?_
        | refine vbuildS (by simp only [tyb, elemOf_s]) (by simp only [tyb, elemOf_s, List.length_cons, List.length_nil, List.all_cons, List.all_nil, Value.oneCell', Bool.and_self, Nat.reduceAdd, Nat.reduceMul, Nat.reduceLeDiff, Nat.reduceLT, true_and, and_true, and_self, Nat.lt_add_one, Nat.zero_mul, Nat.zero_le, Nat.one_mul]) ?_
        | refine vcond ?_
        | refine awp_exit ?_
        | refine awp_skip ?_
        | refine And.intro (by first | omega | assumption | exact setOk_ge (by decide +kernel) | exact setOk_late (by decide +kernel) (by (simp (disch := omega) only [sx0, sx1, sx2, sx3, sx4, sx5, sx6, isBytes, ATy.isAgg, ATy.known, tyb, Nat.reduceAdd, Nat.reduceMul, Nat.reduceEqDiff, Nat.reduceLT, Nat.reduceLeDiff, ↓reduceIte, implies_true, decide_true, decide_false, ne_eq, Value.oneCell', Int.reduceToNat, ite_self, beq_self_eq_true, bne_self_eq_false, gt_iff_lt, Int.reduceEq, Int.reduceLT, Int.reduceLE, Int.reduceNe, List.forall_mem_cons, false_implies, forall_const, natS, *]; rfl)) (by refine wkR_row ?_; repeat' (first | exact trivial | refine wkL_c (by decide +kernel) ?_)) | exact Nat.le_of_ble_eq_true (by kernel_rfl)) ?_
        | refine nqif_ways (fun h => ?_) ?_
        | ((first | refine gif_ways (fun h => ?_) (fun h => ?_) | refine cif_ways (fun h => ?_) (fun h => ?_)) <;> (try simp only [decide_eq_true_eq, decide_eq_false_iff_not, Bool.not_eq_true', Bool.not_eq_false', Bool.not_true, Bool.not_false] at h) <;> (try (exfalso; omega)))) <;> (try (simp (disch := omega) only [sx0, sx1, sx2, sx3, sx4, sx5, sx6, isBytes, ATy.isAgg, ATy.known, tyb, Nat.reduceAdd, Nat.reduceMul, Nat.reduceEqDiff, Nat.reduceLT, Nat.reduceLeDiff, ↓reduceIte, implies_true, decide_true, decide_false, ne_eq, Value.oneCell', Int.reduceToNat, ite_self, beq_self_eq_true, bne_self_eq_false, gt_iff_lt, Int.reduceEq, Int.reduceLT, Int.reduceLE, Int.reduceNe, List.forall_mem_cons, false_implies, forall_const, *])))))
      refine vloop (fun n tm hp nx => ∃ (k : Nat), n = l.length - k ∧ k ≤ l.length ∧ tm 0 = .sl (curs l) ∧ tm 10 = .ex (.int .i64 k) ∧ tm 5 = .ex (.int .i64 0)) l.length ⟨0, rfl, Nat.zero_le _, by (first | rfl | (simp (disch := omega) only [sx0, sx1, sx2, sx3, sx4, sx5, sx6, isBytes, ATy.isAgg, ATy.known, tyb, Nat.reduceAdd, Nat.reduceMul, Nat.reduceEqDiff, Nat.reduceLT, Nat.reduceLeDiff, ↓reduceIte, implies_true, decide_true, decide_false, ne_eq, Value.oneCell', Int.reduceToNat, ite_self, beq_self_eq_true, bne_self_eq_false, gt_iff_lt, Int.reduceEq, Int.reduceLT, Int.reduceLE, Int.reduceNe, List.forall_mem_cons, false_implies, forall_const, natS, *])), by (first | rfl | (simp (disch := omega) only [sx0, sx1, sx2, sx3, sx4, sx5, sx6, isBytes, ATy.isAgg, ATy.known, tyb, Nat.reduceAdd, Nat.reduceMul, Nat.reduceEqDiff, Nat.reduceLT, Nat.reduceLeDiff, ↓reduceIte, implies_true, decide_true, decide_false, ne_eq, Value.oneCell', Int.reduceToNat, ite_self, beq_self_eq_true, bne_self_eq_false, gt_iff_lt, Int.reduceEq, Int.reduceLT, Int.reduceLE, Int.reduceNe, List.forall_mem_cons, false_implies, forall_const, natS, *])), by (first | rfl | (simp (disch := omega) only [sx0, sx1, sx2, sx3, sx4, sx5, sx6, isBytes, ATy.isAgg, ATy.known, tyb, Nat.reduceAdd, Nat.reduceMul, Nat.reduceEqDiff, Nat.reduceLT, Nat.reduceLeDiff, ↓reduceIte, implies_true, decide_true, decide_false, ne_eq, Value.oneCell', Int.reduceToNat, ite_self, beq_self_eq_true, bne_self_eq_false, gt_iff_lt, Int.reduceEq, Int.reduceLT, Int.reduceLE, Int.reduceNe, List.forall_mem_cons, false_implies, forall_const, natS, *]))⟩ ?_
      rintro n tm hp nx ⟨k, hn, hkl, g0, g10, g5⟩
      by_cases hlt : k < l.length
      · have e0 : l[k]? = some l[k] := List.getElem?_eq_getElem hlt
        generalize l[k] = c at e0
        have q4 := curs_get e0
        obtain ⟨r1, r2, r3⟩ := find_yes (find_at hch.out e0)
        have c6 := c5.out c.code
        rw [r1, r2, r3] at c6
        clear e0 r1 r2 r3
        (repeat' (first
    | refine awp_seq ?_
    | refine awp_block ?_
    | (refine awp_ret ?_; simp only [then_ret, block_ret, end_ret])
    | ((first
        | refine aeq_i (cur_eq c.code c.digits) ?_
        | refine call_val (by first | (simp only [sxc, sx6, z0, p0, Nat.reduceEqDiff, ↓reduceIte, AV.ex.injEq, Value.bool.injEq, Value.int.injEq, Value.string.injEq, List.all_append, List.map_append]; (try rfl); done) | (simp only [sxc, sx6, z0, p0, Nat.reduceEqDiff, ↓reduceIte, AV.ex.injEq, Value.bool.injEq, Value.int.injEq, Value.string.injEq, List.all_append, List.map_append, *]; (try rfl); done)) (c6) ?_
        | refine vplain ?_
        | refine vdraws (by kernel_rfl) ?_
        | refine vbuildS (by simp only [tyb, elemOf_s]) (by simp only [tyb, elemOf_s, List.length_cons, List.length_nil, List.all_cons, List.all_nil, Value.oneCell', Bool.and_self, Nat.reduceAdd, Nat.reduceMul, Nat.reduceLeDiff, Nat.reduceLT, true_and, and_true, and_self, Nat.lt_add_one, Nat.zero_mul, Nat.zero_le, Nat.one_mul]) ?_
        | refine vcond ?_
        | refine awp_exit ?_
        | refine awp_skip ?_
        | refine And.intro (by first | omega | assumption | exact setOk_ge (by decide +kernel) | exact setOk_late (by decide +kernel) (by (simp (disch := omega) only [sx0, sx1, sx2, sx3, sx4, sx5, sx6, isBytes, ATy.isAgg, ATy.known, tyb, Nat.reduceAdd, Nat.reduceMul, Nat.reduceEqDiff, Nat.reduceLT, Nat.reduceLeDiff, ↓reduceIte, implies_true, decide_true, decide_false, ne_eq, Value.oneCell', Int.reduceToNat, ite_self, beq_self_eq_true, bne_self_eq_false, gt_iff_lt, Int.reduceEq, Int.reduceLT, Int.reduceLE, Int.reduceNe, List.forall_mem_cons, false_implies, forall_const, natS, *]; rfl)) (by refine wkR_row ?_; repeat' (first | exact trivial | refine wkL_c (by decide +kernel) ?_)) | exact Nat.le_of_ble_eq_true (by kernel_rfl)) ?_
        | refine nqif_ways (fun h => ?_) ?_
        | ((first | refine gif_ways (fun h => ?_) (fun h => ?_) | refine cif_ways (fun h => ?_) (fun h => ?_)) <;> (try simp only [decide_eq_true_eq, decide_eq_false_iff_not, Bool.not_eq_true', Bool.not_eq_false', Bool.not_true, Bool.not_false] at h) <;> (try (exfalso; omega)))) <;> (try (simp (disch := omega) only [sx0, sx1, sx2, sx3, sx4, sx5, sx6, isBytes, ATy.isAgg, ATy.known, tyb, Nat.reduceAdd, Nat.reduceMul, Nat.reduceEqDiff, Nat.reduceLT, Nat.reduceLeDiff, ↓reduceIte, implies_true, decide_true, decide_false, ne_eq, Value.oneCell', Int.reduceToNat, ite_self, beq_self_eq_true, bne_self_eq_false, gt_iff_lt, Int.reduceEq, Int.reduceLT, Int.reduceLE, Int.reduceNe, List.forall_mem_cons, false_implies, forall_const, *])))))
        all_goals exact kround_i (l.length - (k + 1)) (by omega) ⟨k + 1, by omega, by omega, by (first | rfl | (simp (disch := omega) only [sx0, sx1, sx2, sx3, sx4, sx5, sx6, isBytes, ATy.isAgg, ATy.known, tyb, Nat.reduceAdd, Nat.reduceMul, Nat.reduceEqDiff, Nat.reduceLT, Nat.reduceLeDiff, ↓reduceIte, implies_true, decide_true, decide_false, ne_eq, Value.oneCell', Int.reduceToNat, ite_self, beq_self_eq_true, bne_self_eq_false, gt_iff_lt, Int.reduceEq, Int.reduceLT, Int.reduceLE, Int.reduceNe, List.forall_mem_cons, false_implies, forall_const, natS, *])), by (first | rfl | (simp (disch := omega) only [sx0, sx1, sx2, sx3, sx4, sx5, sx6, isBytes, ATy.isAgg, ATy.known, tyb, Nat.reduceAdd, Nat.reduceMul, Nat.reduceEqDiff, Nat.reduceLT, Nat.reduceLeDiff, ↓reduceIte, implies_true, decide_true, decide_false, ne_eq, Value.oneCell', Int.reduceToNat, ite_self, beq_self_eq_true, bne_self_eq_false, gt_iff_lt, Int.reduceEq, Int.reduceLT, Int.reduceLE, Int.reduceNe, List.forall_mem_cons, false_implies, forall_const, natS, *])), by (first | rfl | (simp (disch := omega) only [sx0, sx1, sx2, sx3, sx4, sx5, sx6, isBytes, ATy.isAgg, ATy.known, tyb, Nat.reduceAdd, Nat.reduceMul, Nat.reduceEqDiff, Nat.reduceLT, Nat.reduceLeDiff, ↓reduceIte, implies_true, decide_true, decide_false, ne_eq, Value.oneCell', Int.reduceToNat, ite_self, beq_self_eq_true, bne_self_eq_false, gt_iff_lt, Int.reduceEq, Int.reduceLT, Int.reduceLE, Int.reduceNe, List.forall_mem_cons, false_implies, forall_const, natS, *]))⟩
      · (repeat' (first
    | refine awp_seq ?_
    | refine awp_block ?_
    | (refine awp_ret ?_; simp only [then_ret, block_ret, end_ret])
    | ((first
        | refine call_val (by first | (simp only [sxc, sx6, z0, p0, Nat.reduceEqDiff, ↓reduceIte, AV.ex.injEq, Value.bool.injEq, Value.int.injEq, Value.string.injEq, List.all_append, List.map_append]; (try rfl); done) | (simp only [sxc, sx6, z0, p0, Nat.reduceEqDiff, ↓reduceIte, AV.ex.injEq, Value.bool.injEq, Value.int.injEq, Value.string.injEq, List.all_append, List.map_append, *]; (try rfl); done)) (lives_con) ?_
        | refine vplain ?_
        | refine vdraws (by kernel_rfl) ?_
        | refine vbuildS (by simp only [tyb, elemOf_s]) (by simp only [tyb, elemOf_s, List.length_cons, List.length_nil, List.all_cons, List.all_nil, Value.oneCell', Bool.and_self, Nat.reduceAdd, Nat.reduceMul, Nat.reduceLeDiff, Nat.reduceLT, true_and, and_true, and_self, Nat.lt_add_one, Nat.zero_mul, Nat.zero_le, Nat.one_mul]) ?_
        | refine vcond ?_
        | refine awp_exit ?_
        | refine awp_skip ?_
        | refine And.intro (by first | omega | assumption | exact setOk_ge (by decide +kernel) | exact setOk_late (by decide +kernel) (by (simp (disch := omega) only [sx0, sx1, sx2, sx3, sx4, sx5, sx6, isBytes, ATy.isAgg, ATy.known, tyb, Nat.reduceAdd, Nat.reduceMul, Nat.reduceEqDiff, Nat.reduceLT, Nat.reduceLeDiff, ↓reduceIte, implies_true, decide_true, decide_false, ne_eq, Value.oneCell', Int.reduceToNat, ite_self, beq_self_eq_true, bne_self_eq_false, gt_iff_lt, Int.reduceEq, Int.reduceLT, Int.reduceLE, Int.reduceNe, List.forall_mem_cons, false_implies, forall_const, natS, *]; rfl)) (by refine wkR_row ?_; repeat' (first | exact trivial | refine wkL_c (by decide +kernel) ?_)) | exact Nat.le_of_ble_eq_true (by kernel_rfl)) ?_
        | refine nqif_ways (fun h => ?_) ?_
        | ((first | refine gif_ways (fun h => ?_) (fun h => ?_) | refine cif_ways (fun h => ?_) (fun h => ?_)) <;> (try simp only [decide_eq_true_eq, decide_eq_false_iff_not, Bool.not_eq_true', Bool.not_eq_false', Bool.not_true, Bool.not_false] at h) <;> (try (exfalso; omega)))) <;> (try (simp (disch := omega) only [sx0, sx1, sx2, sx3, sx4, sx5, sx6, isBytes, ATy.isAgg, ATy.known, tyb, Nat.reduceAdd, Nat.reduceMul, Nat.reduceEqDiff, Nat.reduceLT, Nat.reduceLeDiff, ↓reduceIte, implies_true, decide_true, decide_false, ne_eq, Value.oneCell', Int.reduceToNat, ite_self, beq_self_eq_true, bne_self_eq_false, gt_iff_lt, Int.reduceEq, Int.reduceLT, Int.reduceLE, Int.reduceNe, List.forall_mem_cons, false_implies, forall_const, *])))))
        all_goals simp only [sxc, sx6, z0, p0, Nat.reduceEqDiff, ↓reduceIte, AV.ex.injEq, Value.bool.injEq, Value.int.injEq, Value.string.injEq, List.all_append, List.map_append, Tryd.f9, *]
    · (repeat' (first
    | refine awp_seq ?_
    | refine awp_block ?_
    | (refine awp_ret ?_; simp only [then_ret, block_ret, end_ret])
    | ((first
        | refine aeq_i (cur_eq (findC l code).code (findC l code).digits) ?_
        | refine call_val (by first | (simp only [sxc, sx6, z0, p0, Nat.reduceEqDiff, ↓reduceIte, AV.ex.injEq, Value.bool.injEq, Value.int.injEq, Value.string.injEq, List.all_append, List.map_append]; (try rfl); done) | (simp only [sxc, sx6, z0, p0, Nat.reduceEqDiff, ↓reduceIte, AV.ex.injEq, Value.bool.injEq, Value.int.injEq, Value.string.injEq, List.all_append, List.map_append, *]; (try rfl); done)) (c1) ?_
        | refine call_val (by first | (simp only [sxc, sx6, z0, p0, Nat.reduceEqDiff, ↓reduceIte, AV.ex.injEq, Value.bool.injEq, Value.int.injEq, Value.string.injEq, List.all_append, List.map_append]; (try rfl); done) | (simp only [sxc, sx6, z0, p0, Nat.reduceEqDiff, ↓reduceIte, AV.ex.injEq, Value.bool.injEq, Value.int.injEq, Value.string.injEq, List.all_append, List.map_append, *]; (try rfl); done)) (c2) ?_
        | refine call_val (by first | (simp only [sxc, sx6, z0, p0, Nat.reduceEqDiff, ↓reduceIte, AV.ex.injEq, Value.bool.injEq, Value.int.injEq, Value.string.injEq, List.all_append, List.map_append]; (try rfl); done) | (simp only [sxc, sx6, z0, p0, Nat.reduceEqDiff, ↓reduceIte, AV.ex.injEq, Value.bool.injEq, Value.int.injEq, Value.string.injEq, List.all_append, List.map_append, *]; (try rfl); done)) (c3) ?_
        | refine call_val (by first | (simp only [sxc, sx6, z0, p0, Nat.reduceEqDiff, ↓reduceIte, AV.ex.injEq, Value.bool.injEq, Value.int.injEq, Value.string.injEq, List.all_append, List.map_append]; (try rfl); done) | (simp only [sxc, sx6, z0, p0, Nat.reduceEqDiff, ↓reduceIte, AV.ex.injEq, Value.bool.injEq, Value.int.injEq, Value.string.injEq, List.all_append, List.map_append, *]; (try rfl); done)) (c4) ?_
        | refine vplain ?_
        | refine vdraws (by kernel_rfl) ?_
        | refine vbuildS (by simp only [tyb, elemOf_s]) (by simp only [tyb, elemOf_s, List.length_cons, List.length_nil, List.all_cons, List.all_nil, Value.oneCell', Bool.and_self, Nat.reduceAdd, Nat.reduceMul, Nat.reduceLeDiff, Nat.reduceLT, true_and, and_true, and_self, Nat.lt_add_one, Nat.zero_mul, Nat.zero_le, Nat.one_mul]) ?_
        | refine vcond ?_
        | refine awp_exit ?_
        | refine awp_skip ?_
        | refine And.intro (by first | omega | assumption | exact setOk_ge (by decide +kernel) | exact setOk_late (by decide +kernel) (by (simp (disch := omega) only [sx0, sx1, sx2, sx3, sx4, sx5, sx6, isBytes, ATy.isAgg, ATy.known, tyb, Nat.reduceAdd, Nat.reduceMul, Nat.reduceEqDiff, Nat.reduceLT, Nat.reduceLeDiff, ↓reduceIte, implies_true, decide_true, decide_false, ne_eq, Value.oneCell', Int.reduceToNat, ite_self, beq_self_eq_true, bne_self_eq_false, gt_iff_lt, Int.reduceEq, Int.reduceLT, Int.reduceLE, Int.reduceNe, List.forall_mem_cons, false_implies, forall_const, natS, *]; rfl)) (by refine wkR_row ?_; repeat' (first | exact trivial | refine wkL_c (by decide +kernel) ?_)) | exact Nat.le_of_ble_eq_true (by kernel_rfl)) ?_
        | refine nqif_ways (fun h => ?_) ?_
        | ((first | refine gif_ways (fun h => ?_) (fun h => ?_) | refine cif_ways (fun h => ?_) (fun h => ?_)) <;> (try simp only [decide_eq_true_eq, decide_eq_false_iff_not, Bool.not_eq_true', Bool.not_eq_false', Bool.not_true, Bool.not_false] at h) <;> (try (exfalso; omega)))) <;> (try (simp (disch := omega) only [sx0, sx1, sx2, sx3, sx4, sx5, sx6, isBytes, ATy.isAgg, ATy.known, tyb, Nat.reduceAdd, Nat.reduceMul, Nat.reduceEqDiff, Nat.reduceLT, Nat.reduceLeDiff, ↓reduceIte, implies_true, decide_true, decide_false, ne_eq, Value.oneCell', Int.reduceToNat, ite_self, beq_self_eq_true, bne_self_eq_false, gt_iff_lt, Int.reduceEq, Int.reduceLT, Int.reduceLE, Int.reduceNe, List.forall_mem_cons, false_implies, forall_const, *])))))
      refine vloop (fun n tm hp nx => tm 0 = .sl (curs l) ∧ tm 10 = .ex (.int .i64 0) ∧ tm 5 = .ex (.int .i64 (checkE l))) 0 ⟨by (first | rfl | (simp (disch := omega) only [sx0, sx1, sx2, sx3, sx4, sx5, sx6, isBytes, ATy.isAgg, ATy.known, tyb, Nat.reduceAdd, Nat.reduceMul, Nat.reduceEqDiff, Nat.reduceLT, Nat.reduceLeDiff, ↓reduceIte, implies_true, decide_true, decide_false, ne_eq, Value.oneCell', Int.reduceToNat, ite_self, beq_self_eq_true, bne_self_eq_false, gt_iff_lt, Int.reduceEq, Int.reduceLT, Int.reduceLE, Int.reduceNe, List.forall_mem_cons, false_implies, forall_const, natS, *])), by (first | rfl | (simp (disch := omega) only [sx0, sx1, sx2, sx3, sx4, sx5, sx6, isBytes, ATy.isAgg, ATy.known, tyb, Nat.reduceAdd, Nat.reduceMul, Nat.reduceEqDiff, Nat.reduceLT, Nat.reduceLeDiff, ↓reduceIte, implies_true, decide_true, decide_false, ne_eq, Value.oneCell', Int.reduceToNat, ite_self, beq_self_eq_true, bne_self_eq_false, gt_iff_lt, Int.reduceEq, Int.reduceLT, Int.reduceLE, Int.reduceNe, List.forall_mem_cons, false_implies, forall_const, natS, *])), by (first | rfl | (simp (disch := omega) only [sx0, sx1, sx2, sx3, sx4, sx5, sx6, isBytes, ATy.isAgg, ATy.known, tyb, Nat.reduceAdd, Nat.reduceMul, Nat.reduceEqDiff, Nat.reduceLT, Nat.reduceLeDiff, ↓reduceIte, implies_true, decide_true, decide_false, ne_eq, Value.oneCell', Int.reduceToNat, ite_self, beq_self_eq_true, bne_self_eq_false, gt_iff_lt, Int.reduceEq, Int.reduceLT, Int.reduceLE, Int.reduceNe, List.forall_mem_cons, false_implies, forall_const, natS, *]))⟩ ?_
      rintro n tm hp nx ⟨g0, g10, g5⟩
      (repeat' (first
    | refine awp_seq ?_
    | refine awp_block ?_
    | (refine awp_ret ?_; simp only [then_ret, block_ret, end_ret])
    | ((first
        | refine call_val (by first | (simp only [sxc, sx6, z0, p0, Nat.reduceEqDiff, ↓reduceIte, AV.ex.injEq, Value.bool.injEq, Value.int.injEq, Value.string.injEq, List.all_append, List.map_append]; (try rfl); done) | (simp only [sxc, sx6, z0, p0, Nat.reduceEqDiff, ↓reduceIte, AV.ex.injEq, Value.bool.injEq, Value.int.injEq, Value.string.injEq, List.all_append, List.map_append, *]; (try rfl); done)) (lives_con) ?_
        | refine vplain ?_
        | refine vdraws (by kernel_rfl) ?_
        | refine vbuildS (by simp only [tyb, elemOf_s]) (by simp only [tyb, elemOf_s, List.length_cons, List.length_nil, List.all_cons, List.all_nil, Value.oneCell', Bool.and_self, Nat.reduceAdd, Nat.reduceMul, Nat.reduceLeDiff, Nat.reduceLT, true_and, and_true, and_self, Nat.lt_add_one, Nat.zero_mul, Nat.zero_le, Nat.one_mul]) ?_
        | refine vcond ?_
        | refine awp_exit ?_
        | refine awp_skip ?_
        | refine And.intro (by first | omega | assumption | exact setOk_ge (by decide +kernel) | exact setOk_late (by decide +kernel) (by (simp (disch := omega) only [sx0, sx1, sx2, sx3, sx4, sx5, sx6, isBytes, ATy.isAgg, ATy.known, tyb, Nat.reduceAdd, Nat.reduceMul, Nat.reduceEqDiff, Nat.reduceLT, Nat.reduceLeDiff, ↓reduceIte, implies_true, decide_true, decide_false, ne_eq, Value.oneCell', Int.reduceToNat, ite_self, beq_self_eq_true, bne_self_eq_false, gt_iff_lt, Int.reduceEq, Int.reduceLT, Int.reduceLE, Int.reduceNe, List.forall_mem_cons, false_implies, forall_const, natS, *]; rfl)) (by refine wkR_row ?_; repeat' (first | exact trivial | refine wkL_c (by decide +kernel) ?_)) | exact Nat.le_of_ble_eq_true (by kernel_rfl)) ?_
        | refine nqif_ways (fun h => ?_) ?_
        | ((first | refine gif_ways (fun h => ?_) (fun h => ?_) | refine cif_ways (fun h => ?_) (fun h => ?_)) <;> (try simp only [decide_eq_true_eq, decide_eq_false_iff_not, Bool.not_eq_true', Bool.not_eq_false', Bool.not_true, Bool.not_false] at h) <;> (try (exfalso; omega)))) <;> (try (simp (disch := omega) only [sx0, sx1, sx2, sx3, sx4, sx5, sx6, isBytes, ATy.isAgg, ATy.known, tyb, Nat.reduceAdd, Nat.reduceMul, Nat.reduceEqDiff, Nat.reduceLT, Nat.reduceLeDiff, ↓reduceIte, implies_true, decide_true, decide_false, ne_eq, Value.oneCell', Int.reduceToNat, ite_self, beq_self_eq_true, bne_self_eq_false, gt_iff_lt, Int.reduceEq, Int.reduceLT, Int.reduceLE, Int.reduceNe, List.forall_mem_cons, false_implies, forall_const, *])))))
      all_goals simp only [sxc, sx6, z0, p0, Nat.reduceEqDiff, ↓reduceIte, AV.ex.injEq, Value.bool.injEq, Value.int.injEq, Value.string.injEq, List.all_append, List.map_append, Tryd.f9, *]
  · (repeat' (first
    | refine awp_seq ?_
    | refine awp_block ?_
    | (refine awp_ret ?_; simp only [then_ret, block_ret, end_ret])
    | ((first
        | refine call_val (by first | (simp only [sxc, sx6, z0, p0, Nat.reduceEqDiff, ↓reduceIte, AV.ex.injEq, Value.bool.injEq, Value.int.injEq, Value.string.injEq, List.all_append, List.map_append]; (try rfl); done) | (simp only [sxc, sx6, z0, p0, Nat.reduceEqDiff, ↓reduceIte, AV.ex.injEq, Value.bool.injEq, Value.int.injEq, Value.string.injEq, List.all_append, List.map_append, *]; (try rfl); done)) (lives_con) ?_
        | refine vplain ?_
        | refine vdraws (by kernel_rfl) ?_
        | refine vbuildS (by simp only [tyb, elemOf_s]) (by simp only [tyb, elemOf_s, List.length_cons, List.length_nil, List.all_cons, List.all_nil, Value.oneCell', Bool.and_self, Nat.reduceAdd, Nat.reduceMul, Nat.reduceLeDiff, Nat.reduceLT, true_and, and_true, and_self, Nat.lt_add_one, Nat.zero_mul, Nat.zero_le, Nat.one_mul]) ?_
        | refine vcond ?_
        | refine awp_exit ?_
        | refine awp_skip ?_
        | refine And.intro (by first | omega | assumption | exact setOk_ge (by decide +kernel) | exact setOk_late (by decide +kernel) (by (simp (disch := omega) only [sx0, sx1, sx2, sx3, sx4, sx5, sx6, isBytes, ATy.isAgg, ATy.known, tyb, Nat.reduceAdd, Nat.reduceMul, Nat.reduceEqDiff, Nat.reduceLT, Nat.reduceLeDiff, ↓reduceIte, implies_true, decide_true, decide_false, ne_eq, Value.oneCell', Int.reduceToNat, ite_self, beq_self_eq_true, bne_self_eq_false, gt_iff_lt, Int.reduceEq, Int.reduceLT, Int.reduceLE, Int.reduceNe, List.forall_mem_cons, false_implies, forall_const, natS, *]; rfl)) (by refine wkR_row ?_; repeat' (first | exact trivial | refine wkL_c (by decide +kernel) ?_)) | exact Nat.le_of_ble_eq_true (by kernel_rfl)) ?_
        | refine nqif_ways (fun h => ?_) ?_
        | ((first | refine gif_ways (fun h => ?_) (fun h => ?_) | refine cif_ways (fun h => ?_) (fun h => ?_)) <;> (try simp only [decide_eq_true_eq, decide_eq_false_iff_not, Bool.not_eq_true', Bool.not_eq_false', Bool.not_true, Bool.not_false] at h) <;> (try (exfalso; omega)))) <;> (try (simp (disch := omega) only [sx0, sx1, sx2, sx3, sx4, sx5, sx6, isBytes, ATy.isAgg, ATy.known, tyb, Nat.reduceAdd, Nat.reduceMul, Nat.reduceEqDiff, Nat.reduceLT, Nat.reduceLeDiff, ↓reduceIte, implies_true, decide_true, decide_false, ne_eq, Value.oneCell', Int.reduceToNat, ite_self, beq_self_eq_true, bne_self_eq_false, gt_iff_lt, Int.reduceEq, Int.reduceLT, Int.reduceLE, Int.reduceNe, List.forall_mem_cons, false_implies, forall_const, *])))))
    all_goals simp only [sxc, sx6, z0, p0, Nat.reduceEqDiff, ↓reduceIte, AV.ex.injEq, Value.bool.injEq, Value.int.injEq, Value.string.injEq, List.all_append, List.map_append, Tryd.f9, *]
end Go.Proofs.YtaphbajfjmhpnaaDoor
