/-
  Chapter 03, walked: amounts, written as the reference has it. Conditions: those that each theorem states.
-/
import Derived.Test.YtaphbajfjmhpnaaDoorC03E
namespace Go.Proofs.YtaphbajfjmhpnaaDoor
open Go.RowKit
set_option maxRecDepth 100000
set_option linter.unusedSimpArgs false

theorem low_tail {n d : Nat} {y : ByteArray} (hy : y.data.toList = Lib.decDigits (10 ^ d + n % 10 ^ d)) : 1 ≤ y.size ∧ (y.extract 1 y.size).data.toList = lowD n d := by
  rw [dec_one d _ (Nat.mod_lt _ (Nat.pow_pos (by omega)))] at hy
  refine ⟨by rw [← size_toList, hy]; simp, ?_⟩
  rw [ext_list, List.take_of_length_le (by rw [size_toList]; exact Nat.le_refl _), hy]
  show lowD (n % 10 ^ d) d = _
  exact lowD_mod n d
theorem rformat_d {a : Int} {d : Nat} {x y sg : ByteArray} (hx : x.data.toList = Lib.decDigits (a.natAbs / 10 ^ d)) (hy : y.data.toList = Lib.decDigits (10 ^ d + a.natAbs % 10 ^ d)) (hs : sg = signB a) (h0 : d ≠ 0) : 1 ≤ y.size ∧ (⟨(formatT a d).toArray⟩ : ByteArray) = sg ++ x ++ ⟨#[46]⟩ ++ y.extract 1 y.size := by
  obtain ⟨h1, h2⟩ := low_tail (n := a.natAbs) hy
  refine ⟨h1, Eq.symm <| bytes_ext ?_⟩
  rw [formatT, if_neg h0, hs]
  simp only [ByteArray.data_append, Array.toList_append, h2, hx, sign_list]
  simp
theorem rformat_0 {a : Int} {x sg : ByteArray} (hx : x.data.toList = Lib.decDigits a.natAbs) (hs : sg = signB a) : (⟨(formatT a 0).toArray⟩ : ByteArray) = sg ++ x := Eq.symm <| bytes_ext (by
  rw [hs, formatT, if_pos rfl]
  simp [ByteArray.data_append, sign_list, hx])
theorem RFormat_neg (a : Int) (d : Nat) (h1 : valid3 a = true) (h2 : placesB d = true) (hs : a < 0) : Con Tryd.prog Ctx 16 [.ex (.int .i64 a), .ex (.int .i64 d)] (.val (.tup [.ex (.string (formatS a d)), .ex (.int .i64 (formatE a d))])) := by
  refine con_val base Tryd.func16 rfl rfl (by kernel_rfl) (Nat.le_of_ble_eq_true rfl) ?_
  rw [init_eq]
  obtain ⟨r1, r2⟩ := format_ok h1 h2
  obtain ⟨v1, v2⟩ := valid3_iff.1 h1
  obtain ⟨d1, d2⟩ := placesB_iff.1 h2
  have hd4 : d ≤ 4 := by omega
  obtain ⟨n, hn⟩ : ∃ n : Nat, a.natAbs = n := ⟨_, rfl⟩
  have hna : a = -(n : Int) := by omega
  have hnl : n ≤ 1000000000000 := by omega
  have hsb : (⟨#[45]⟩ : ByteArray) = signB a := by unfold signB; rw [if_pos hs]
  have hsg : (⟨#[45]⟩ : ByteArray).size = 1 := rfl
  have h46 : (⟨#[46]⟩ : ByteArray).size = 1 := rfl
  have hP := Power_con d hd4
  have hPd := Lib.hid (show 10 ^ d = 10 ^ d from rfl)
  have hP1 : 1 ≤ 10 ^ d := Nat.pow_pos (by omega)
  have hP2 : 10 ^ d ≤ 10000 := Nat.le_trans (Nat.pow_le_pow_right (by omega) hd4) (by decide)
  by_cases h0 : d = 0
  · have hD := digits_con n (by omega)
    obtain ⟨x, hx⟩ : ∃ x : ByteArray, ⟨(Lib.decDigits n).toArray⟩ = x := ⟨_, rfl⟩
    rw [hx] at hD
    have hxz : x.size ≤ 21 := by rw [← size_toList, ← hx]; exact dec_len n (by omega)
    have hz := rformat_0 (a := a) (x := x) (by rw [← hx, hn]) hsb
    rw [← h0] at hz
    have hd0 : (d : Int) = 0 := by omega
    rw [hd0] at r1 r2 hP
    clear hx hsb hn d1 h0 hPd
    generalize 10 ^ d = P at hP hP1 hP2
    subst hna
    have hn0 : (0 : Int) - -(n : Int) = n := by omega
    (repeat' (first
    | refine awp_seq ?_
    | refine awp_block ?_
    | (refine awp_ret ?_; simp only [then_ret, block_ret, end_ret])
    | ((first
        | refine call_val (by first | (simp only [sxc, sx6, z0, p0, Nat.reduceEqDiff, ↓reduceIte, AV.ex.injEq, Value.bool.injEq, Value.int.injEq, Value.string.injEq, List.all_append, List.map_append]; (try rfl); done) | (simp only [sxc, sx6, z0, p0, Nat.reduceEqDiff, ↓reduceIte, AV.ex.injEq, Value.bool.injEq, Value.int.injEq, Value.string.injEq, List.all_append, List.map_append, *]; (try rfl); done)) (RValid_con _) ?_
        | refine call_val (by first | (simp only [sxc, sx6, z0, p0, Nat.reduceEqDiff, ↓reduceIte, AV.ex.injEq, Value.bool.injEq, Value.int.injEq, Value.string.injEq, List.all_append, List.map_append]; (try rfl); done) | (simp only [sxc, sx6, z0, p0, Nat.reduceEqDiff, ↓reduceIte, AV.ex.injEq, Value.bool.injEq, Value.int.injEq, Value.string.injEq, List.all_append, List.map_append, *]; (try rfl); done)) (hP) ?_
        | refine call_val (by first | (simp only [sxc, sx6, z0, p0, Nat.reduceEqDiff, ↓reduceIte, AV.ex.injEq, Value.bool.injEq, Value.int.injEq, Value.string.injEq, List.all_append, List.map_append]; (try rfl); done) | (simp only [sxc, sx6, z0, p0, Nat.reduceEqDiff, ↓reduceIte, AV.ex.injEq, Value.bool.injEq, Value.int.injEq, Value.string.injEq, List.all_append, List.map_append, *]; (try rfl); done)) (hD) ?_
        | refine vplain ?_
        | refine vdraws (by kernel_rfl) ?_
        | refine vbuildS (by simp only [tyb, elemOf_s]) (by simp only [tyb, elemOf_s, List.length_cons, List.length_nil, List.all_cons, List.all_nil, Value.oneCell', Bool.and_self, Nat.reduceAdd, Nat.reduceMul, Nat.reduceLeDiff, Nat.reduceLT, true_and, and_true, and_self, Nat.lt_add_one, Nat.zero_mul, Nat.zero_le, Nat.one_mul]) ?_
        | refine vcond ?_
        | refine awp_exit ?_
        | refine awp_skip ?_
        | refine And.intro (by first | omega | assumption | exact setOk_ge (by decide +kernel) | exact setOk_late (by decide +kernel) (by (simp (disch := omega) only [sx0, sx1, sx2, sx3, sx4, sx5, sx6, isBytes, ATy.isAgg, ATy.known, tyb, Nat.reduceAdd, Nat.reduceMul, Nat.reduceEqDiff, Nat.reduceLT, Nat.reduceLeDiff, ↓reduceIte, implies_true, decide_true, decide_false, ne_eq, Value.oneCell', Int.reduceToNat, ite_self, beq_self_eq_true, bne_self_eq_false, gt_iff_lt, Int.reduceEq, Int.reduceLT, Int.reduceLE, Int.reduceNe, List.forall_mem_cons, false_implies, forall_const, natS, *]; rfl)) (by refine wkR_row ?_; repeat' (first | exact trivial | refine wkL_c (by decide +kernel) ?_)) | exact Nat.le_of_ble_eq_true (by kernel_rfl)) ?_
        | refine nqif_ways (fun h => ?_) ?_
        | ((first | refine gif_ways (fun h => ?_) (fun h => ?_) | refine cif_ways (fun h => ?_) (fun h => ?_)) <;> (try simp only [decide_eq_true_eq, decide_eq_false_iff_not, Bool.not_eq_true', Bool.not_eq_false', Bool.not_true, Bool.not_false] at h) <;> (try (exfalso; omega)))) <;> (try (simp (disch := omega) only [sx0, sx1, sx2, sx3, sx4, sx5, sx6, isBytes, ATy.isAgg, ATy.known, tyb, Nat.reduceAdd, Nat.reduceMul, Nat.reduceEqDiff, Nat.reduceLT, Nat.reduceLeDiff, ↓reduceIte, implies_true, decide_true, decide_false, ne_eq, Value.oneCell', Int.reduceToNat, ite_self, beq_self_eq_true, bne_self_eq_false, gt_iff_lt, Int.reduceEq, Int.reduceLT, Int.reduceLE, Int.reduceNe, List.forall_mem_cons, false_implies, forall_const, *])))))
    all_goals simp only [sxc, sx6, z0, p0, Nat.reduceEqDiff, ↓reduceIte, AV.ex.injEq, Value.bool.injEq, Value.int.injEq, Value.string.injEq, List.all_append, List.map_append, Tryd.f16, *]
  · have hq : n / 10 ^ d ≤ n := Nat.div_le_self _ _
    have hr : n % 10 ^ d < 10 ^ d := Nat.mod_lt _ hP1
    have hD := digits_con (n / 10 ^ d) (by omega)
    have hE := digits_con (10 ^ d + n % 10 ^ d) (by omega)
    obtain ⟨x, hx⟩ : ∃ x : ByteArray, ⟨(Lib.decDigits (n / 10 ^ d)).toArray⟩ = x := ⟨_, rfl⟩
    obtain ⟨y, hy⟩ : ∃ y : ByteArray, ⟨(Lib.decDigits (10 ^ d + n % 10 ^ d)).toArray⟩ = y := ⟨_, rfl⟩
    rw [hx] at hD
    rw [hy] at hE
    have hxz : x.size ≤ 21 := by rw [← size_toList, ← hx]; exact dec_len _ (by omega)
    have hyz : y.size ≤ 21 := by rw [← size_toList, ← hy]; exact dec_len _ (by omega)
    obtain ⟨f1, hz⟩ := rformat_d (a := a) (x := x) (y := y) (by rw [← hx, hn]) (by rw [← hy, hn]) hsb h0
    have t1 : ((n : Int)).tdiv ((10 ^ d : Nat) : Int) = ((n / 10 ^ d : Nat) : Int) := by rw [Int.tdiv_eq_ediv_of_nonneg (by omega)]; exact (Int.natCast_ediv n (10 ^ d)).symm
    have t2 : ((n : Int)).tmod ((10 ^ d : Nat) : Int) = ((n % 10 ^ d : Nat) : Int) := by rw [Int.tmod_eq_emod_of_nonneg (by omega)]; exact (Int.natCast_emod n (10 ^ d)).symm
    have x1 : ((⟨#[45]⟩ : ByteArray) ++ x).size ≤ 100 := by rw [ByteArray.size_append]; omega
    have x2 : ((⟨#[45]⟩ : ByteArray) ++ x ++ ⟨#[46]⟩).size ≤ 200 := by rw [ByteArray.size_append]; omega
    have x3 : (y.extract 1 y.size).size ≤ 100 := by rw [ByteArray.size_extract]; omega
    have hd0 : ¬ (d : Int) = 0 := by omega
    clear hx hy hsb hn d1 h0 hPd
    generalize 10 ^ d = P at *
    generalize n / P = Q at *
    generalize n % P = R at *
    subst hna
    have hn0 : (0 : Int) - -(n : Int) = n := by omega
    have hPR : ((P : Int) + (R : Int)) = ((P + R : Nat) : Int) := by omega
    (repeat' (first
    | refine awp_seq ?_
    | refine awp_block ?_
    | (refine awp_ret ?_; simp only [then_ret, block_ret, end_ret])
    | ((first
        | refine call_val (by first | (simp only [sxc, sx6, z0, p0, Nat.reduceEqDiff, ↓reduceIte, AV.ex.injEq, Value.bool.injEq, Value.int.injEq, Value.string.injEq, List.all_append, List.map_append]; (try rfl); done) | (simp only [sxc, sx6, z0, p0, Nat.reduceEqDiff, ↓reduceIte, AV.ex.injEq, Value.bool.injEq, Value.int.injEq, Value.string.injEq, List.all_append, List.map_append, *]; (try rfl); done)) (RValid_con _) ?_
        | refine call_val (by first | (simp only [sxc, sx6, z0, p0, Nat.reduceEqDiff, ↓reduceIte, AV.ex.injEq, Value.bool.injEq, Value.int.injEq, Value.string.injEq, List.all_append, List.map_append]; (try rfl); done) | (simp only [sxc, sx6, z0, p0, Nat.reduceEqDiff, ↓reduceIte, AV.ex.injEq, Value.bool.injEq, Value.int.injEq, Value.string.injEq, List.all_append, List.map_append, *]; (try rfl); done)) (hP) ?_
        | refine call_val (by first | (simp only [sxc, sx6, z0, p0, Nat.reduceEqDiff, ↓reduceIte, AV.ex.injEq, Value.bool.injEq, Value.int.injEq, Value.string.injEq, List.all_append, List.map_append]; (try rfl); done) | (simp only [sxc, sx6, z0, p0, Nat.reduceEqDiff, ↓reduceIte, AV.ex.injEq, Value.bool.injEq, Value.int.injEq, Value.string.injEq, List.all_append, List.map_append, *]; (try rfl); done)) (hD) ?_
        | refine call_val (by first | (simp only [sxc, sx6, z0, p0, Nat.reduceEqDiff, ↓reduceIte, AV.ex.injEq, Value.bool.injEq, Value.int.injEq, Value.string.injEq, List.all_append, List.map_append]; (try rfl); done) | (simp only [sxc, sx6, z0, p0, Nat.reduceEqDiff, ↓reduceIte, AV.ex.injEq, Value.bool.injEq, Value.int.injEq, Value.string.injEq, List.all_append, List.map_append, *]; (try rfl); done)) (hE) ?_
        | refine vplain ?_
        | refine vdraws (by kernel_rfl) ?_
        | refine vbuildS (by simp only [tyb, elemOf_s]) (by simp only [tyb, elemOf_s, List.length_cons, List.length_nil, List.all_cons, List.all_nil, Value.oneCell', Bool.and_self, Nat.reduceAdd, Nat.reduceMul, Nat.reduceLeDiff, Nat.reduceLT, true_and, and_true, and_self, Nat.lt_add_one, Nat.zero_mul, Nat.zero_le, Nat.one_mul]) ?_
        | refine vcond ?_
        | refine awp_exit ?_
        | refine awp_skip ?_
        | refine And.intro (by first | omega | assumption | exact setOk_ge (by decide +kernel) | exact setOk_late (by decide +kernel) (by (simp (disch := omega) only [sx0, sx1, sx2, sx3, sx4, sx5, sx6, isBytes, ATy.isAgg, ATy.known, tyb, Nat.reduceAdd, Nat.reduceMul, Nat.reduceEqDiff, Nat.reduceLT, Nat.reduceLeDiff, ↓reduceIte, implies_true, decide_true, decide_false, ne_eq, Value.oneCell', Int.reduceToNat, ite_self, beq_self_eq_true, bne_self_eq_false, gt_iff_lt, Int.reduceEq, Int.reduceLT, Int.reduceLE, Int.reduceNe, List.forall_mem_cons, false_implies, forall_const, natS, *]; rfl)) (by refine wkR_row ?_; repeat' (first | exact trivial | refine wkL_c (by decide +kernel) ?_)) | exact Nat.le_of_ble_eq_true (by kernel_rfl)) ?_
        | refine nqif_ways (fun h => ?_) ?_
        | ((first | refine gif_ways (fun h => ?_) (fun h => ?_) | refine cif_ways (fun h => ?_) (fun h => ?_)) <;> (try simp only [decide_eq_true_eq, decide_eq_false_iff_not, Bool.not_eq_true', Bool.not_eq_false', Bool.not_true, Bool.not_false] at h) <;> (try (exfalso; omega)))) <;> (try (simp (disch := omega) only [sx0, sx1, sx2, sx3, sx4, sx5, sx6, isBytes, ATy.isAgg, ATy.known, tyb, Nat.reduceAdd, Nat.reduceMul, Nat.reduceEqDiff, Nat.reduceLT, Nat.reduceLeDiff, ↓reduceIte, implies_true, decide_true, decide_false, ne_eq, Value.oneCell', Int.reduceToNat, ite_self, beq_self_eq_true, bne_self_eq_false, gt_iff_lt, Int.reduceEq, Int.reduceLT, Int.reduceLE, Int.reduceNe, List.forall_mem_cons, false_implies, forall_const, *])))))
    all_goals simp only [sxc, sx6, z0, p0, Nat.reduceEqDiff, ↓reduceIte, AV.ex.injEq, Value.bool.injEq, Value.int.injEq, Value.string.injEq, List.all_append, List.map_append, Tryd.f16, *]
theorem RFormat_pos (a : Int) (d : Nat) (h1 : valid3 a = true) (h2 : placesB d = true) (hs : ¬ a < 0) : Con Tryd.prog Ctx 16 [.ex (.int .i64 a), .ex (.int .i64 d)] (.val (.tup [.ex (.string (formatS a d)), .ex (.int .i64 (formatE a d))])) := by
  refine con_val base Tryd.func16 rfl rfl (by kernel_rfl) (Nat.le_of_ble_eq_true rfl) ?_
  rw [init_eq]
  obtain ⟨r1, r2⟩ := format_ok h1 h2
  obtain ⟨v1, v2⟩ := valid3_iff.1 h1
  obtain ⟨d1, d2⟩ := placesB_iff.1 h2
  have hd4 : d ≤ 4 := by omega
  obtain ⟨n, hn⟩ : ∃ n : Nat, a.natAbs = n := ⟨_, rfl⟩
  have hna : a = (n : Int) := by omega
  have hnl : n ≤ 1000000000000 := by omega
  have hsb : (⟨#[]⟩ : ByteArray) = signB a := by unfold signB; rw [if_neg hs]
  have hsg : (⟨#[]⟩ : ByteArray).size = 0 := rfl
  have h46 : (⟨#[46]⟩ : ByteArray).size = 1 := rfl
  have hP := Power_con d hd4
  have hPd := Lib.hid (show 10 ^ d = 10 ^ d from rfl)
  have hP1 : 1 ≤ 10 ^ d := Nat.pow_pos (by omega)
  have hP2 : 10 ^ d ≤ 10000 := Nat.le_trans (Nat.pow_le_pow_right (by omega) hd4) (by decide)
  by_cases h0 : d = 0
  · have hD := digits_con n (by omega)
    obtain ⟨x, hx⟩ : ∃ x : ByteArray, ⟨(Lib.decDigits n).toArray⟩ = x := ⟨_, rfl⟩
    rw [hx] at hD
    have hxz : x.size ≤ 21 := by rw [← size_toList, ← hx]; exact dec_len n (by omega)
    have hz := rformat_0 (a := a) (x := x) (by rw [← hx, hn]) hsb
    rw [← h0] at hz
    have hd0 : (d : Int) = 0 := by omega
    rw [hd0] at r1 r2 hP
    clear hx hsb hn d1 h0 hPd
    generalize 10 ^ d = P at hP hP1 hP2
    subst hna
    have hn0 : (0 : Int) - -(n : Int) = n := by omega
    (repeat' (first
    | refine awp_seq ?_
    | refine awp_block ?_
    | (refine awp_ret ?_; simp only [then_ret, block_ret, end_ret])
    | ((first
        | refine call_val (by first | (simp only [sxc, sx6, z0, p0, Nat.reduceEqDiff, ↓reduceIte, AV.ex.injEq, Value.bool.injEq, Value.int.injEq, Value.string.injEq, List.all_append, List.map_append]; (try rfl); done) | (simp only [sxc, sx6, z0, p0, Nat.reduceEqDiff, ↓reduceIte, AV.ex.injEq, Value.bool.injEq, Value.int.injEq, Value.string.injEq, List.all_append, List.map_append, *]; (try rfl); done)) (RValid_con _) ?_
        | refine call_val (by first | (simp only [sxc, sx6, z0, p0, Nat.reduceEqDiff, ↓reduceIte, AV.ex.injEq, Value.bool.injEq, Value.int.injEq, Value.string.injEq, List.all_append, List.map_append]; (try rfl); done) | (simp only [sxc, sx6, z0, p0, Nat.reduceEqDiff, ↓reduceIte, AV.ex.injEq, Value.bool.injEq, Value.int.injEq, Value.string.injEq, List.all_append, List.map_append, *]; (try rfl); done)) (hP) ?_
        | refine call_val (by first | (simp only [sxc, sx6, z0, p0, Nat.reduceEqDiff, ↓reduceIte, AV.ex.injEq, Value.bool.injEq, Value.int.injEq, Value.string.injEq, List.all_append, List.map_append]; (try rfl); done) | (simp only [sxc, sx6, z0, p0, Nat.reduceEqDiff, ↓reduceIte, AV.ex.injEq, Value.bool.injEq, Value.int.injEq, Value.string.injEq, List.all_append, List.map_append, *]; (try rfl); done)) (hD) ?_
        | refine vplain ?_
        | refine vdraws (by kernel_rfl) ?_
        | refine vbuildS (by simp only [tyb, elemOf_s]) (by simp only [tyb, elemOf_s, List.length_cons, List.length_nil, List.all_cons, List.all_nil, Value.oneCell', Bool.and_self, Nat.reduceAdd, Nat.reduceMul, Nat.reduceLeDiff, Nat.reduceLT, true_and, and_true, and_self, Nat.lt_add_one, Nat.zero_mul, Nat.zero_le, Nat.one_mul]) ?_
        | refine vcond ?_
        | refine awp_exit ?_
        | refine awp_skip ?_
        | refine And.intro (by first | omega | assumption | exact setOk_ge (by decide +kernel) | exact setOk_late (by decide +kernel) (by (simp (disch := omega) only [sx0, sx1, sx2, sx3, sx4, sx5, sx6, isBytes, ATy.isAgg, ATy.known, tyb, Nat.reduceAdd, Nat.reduceMul, Nat.reduceEqDiff, Nat.reduceLT, Nat.reduceLeDiff, ↓reduceIte, implies_true, decide_true, decide_false, ne_eq, Value.oneCell', Int.reduceToNat, ite_self, beq_self_eq_true, bne_self_eq_false, gt_iff_lt, Int.reduceEq, Int.reduceLT, Int.reduceLE, Int.reduceNe, List.forall_mem_cons, false_implies, forall_const, natS, *]; rfl)) (by refine wkR_row ?_; repeat' (first | exact trivial | refine wkL_c (by decide +kernel) ?_)) | exact Nat.le_of_ble_eq_true (by kernel_rfl)) ?_
        | refine nqif_ways (fun h => ?_) ?_
        | ((first | refine gif_ways (fun h => ?_) (fun h => ?_) | refine cif_ways (fun h => ?_) (fun h => ?_)) <;> (try simp only [decide_eq_true_eq, decide_eq_false_iff_not, Bool.not_eq_true', Bool.not_eq_false', Bool.not_true, Bool.not_false] at h) <;> (try (exfalso; omega)))) <;> (try (simp (disch := omega) only [sx0, sx1, sx2, sx3, sx4, sx5, sx6, isBytes, ATy.isAgg, ATy.known, tyb, Nat.reduceAdd, Nat.reduceMul, Nat.reduceEqDiff, Nat.reduceLT, Nat.reduceLeDiff, ↓reduceIte, implies_true, decide_true, decide_false, ne_eq, Value.oneCell', Int.reduceToNat, ite_self, beq_self_eq_true, bne_self_eq_false, gt_iff_lt, Int.reduceEq, Int.reduceLT, Int.reduceLE, Int.reduceNe, List.forall_mem_cons, false_implies, forall_const, *])))))
    all_goals simp only [sxc, sx6, z0, p0, Nat.reduceEqDiff, ↓reduceIte, AV.ex.injEq, Value.bool.injEq, Value.int.injEq, Value.string.injEq, List.all_append, List.map_append, Tryd.f16, *]
  · have hq : n / 10 ^ d ≤ n := Nat.div_le_self _ _
    have hr : n % 10 ^ d < 10 ^ d := Nat.mod_lt _ hP1
    have hD := digits_con (n / 10 ^ d) (by omega)
    have hE := digits_con (10 ^ d + n % 10 ^ d) (by omega)
    obtain ⟨x, hx⟩ : ∃ x : ByteArray, ⟨(Lib.decDigits (n / 10 ^ d)).toArray⟩ = x := ⟨_, rfl⟩
    obtain ⟨y, hy⟩ : ∃ y : ByteArray, ⟨(Lib.decDigits (10 ^ d + n % 10 ^ d)).toArray⟩ = y := ⟨_, rfl⟩
    rw [hx] at hD
    rw [hy] at hE
    have hxz : x.size ≤ 21 := by rw [← size_toList, ← hx]; exact dec_len _ (by omega)
    have hyz : y.size ≤ 21 := by rw [← size_toList, ← hy]; exact dec_len _ (by omega)
    obtain ⟨f1, hz⟩ := rformat_d (a := a) (x := x) (y := y) (by rw [← hx, hn]) (by rw [← hy, hn]) hsb h0
    have t1 : ((n : Int)).tdiv ((10 ^ d : Nat) : Int) = ((n / 10 ^ d : Nat) : Int) := by rw [Int.tdiv_eq_ediv_of_nonneg (by omega)]; exact (Int.natCast_ediv n (10 ^ d)).symm
    have t2 : ((n : Int)).tmod ((10 ^ d : Nat) : Int) = ((n % 10 ^ d : Nat) : Int) := by rw [Int.tmod_eq_emod_of_nonneg (by omega)]; exact (Int.natCast_emod n (10 ^ d)).symm
    have x1 : ((⟨#[]⟩ : ByteArray) ++ x).size ≤ 100 := by rw [ByteArray.size_append]; omega
    have x2 : ((⟨#[]⟩ : ByteArray) ++ x ++ ⟨#[46]⟩).size ≤ 200 := by rw [ByteArray.size_append]; omega
    have x3 : (y.extract 1 y.size).size ≤ 100 := by rw [ByteArray.size_extract]; omega
    have hd0 : ¬ (d : Int) = 0 := by omega
    clear hx hy hsb hn d1 h0 hPd
    generalize 10 ^ d = P at *
    generalize n / P = Q at *
    generalize n % P = R at *
    subst hna
    have hn0 : (0 : Int) - -(n : Int) = n := by omega
    have hPR : ((P : Int) + (R : Int)) = ((P + R : Nat) : Int) := by omega
    (repeat' (first
    | refine awp_seq ?_
    | refine awp_block ?_
    | (refine awp_ret ?_; simp only [then_ret, block_ret, end_ret])
    | ((first
        | refine call_val (by first | (simp only [sxc, sx6, z0, p0, Nat.reduceEqDiff, ↓reduceIte, AV.ex.injEq, Value.bool.injEq, Value.int.injEq, Value.string.injEq, List.all_append, List.map_append]; (try rfl); done) | (simp only [sxc, sx6, z0, p0, Nat.reduceEqDiff, ↓reduceIte, AV.ex.injEq, Value.bool.injEq, Value.int.injEq, Value.string.injEq, List.all_append, List.map_append, *]; (try rfl); done)) (RValid_con _) ?_
        | refine call_val (by first | (simp only [sxc, sx6, z0, p0, Nat.reduceEqDiff, ↓reduceIte, AV.ex.injEq, Value.bool.injEq, Value.int.injEq, Value.string.injEq, List.all_append, List.map_append]; (try rfl); done) | (simp only [sxc, sx6, z0, p0, Nat.reduceEqDiff, ↓reduceIte, AV.ex.injEq, Value.bool.injEq, Value.int.injEq, Value.string.injEq, List.all_append, List.map_append, *]; (try rfl); done)) (hP) ?_
        | refine call_val (by first | (simp only [sxc, sx6, z0, p0, Nat.reduceEqDiff, ↓reduceIte, AV.ex.injEq, Value.bool.injEq, Value.int.injEq, Value.string.injEq, List.all_append, List.map_append]; (try rfl); done) | (simp only [sxc, sx6, z0, p0, Nat.reduceEqDiff, ↓reduceIte, AV.ex.injEq, Value.bool.injEq, Value.int.injEq, Value.string.injEq, List.all_append, List.map_append, *]; (try rfl); done)) (hD) ?_
        | refine call_val (by first | (simp only [sxc, sx6, z0, p0, Nat.reduceEqDiff, ↓reduceIte, AV.ex.injEq, Value.bool.injEq, Value.int.injEq, Value.string.injEq, List.all_append, List.map_append]; (try rfl); done) | (simp only [sxc, sx6, z0, p0, Nat.reduceEqDiff, ↓reduceIte, AV.ex.injEq, Value.bool.injEq, Value.int.injEq, Value.string.injEq, List.all_append, List.map_append, *]; (try rfl); done)) (hE) ?_
        | refine vplain ?_
        | refine vdraws (by kernel_rfl) ?_
        | refine vbuildS (by simp only [tyb, elemOf_s]) (by simp only [tyb, elemOf_s, List.length_cons, List.length_nil, List.all_cons, List.all_nil, Value.oneCell', Bool.and_self, Nat.reduceAdd, Nat.reduceMul, Nat.reduceLeDiff, Nat.reduceLT, true_and, and_true, and_self, Nat.lt_add_one, Nat.zero_mul, Nat.zero_le, Nat.one_mul]) ?_
        | refine vcond ?_
        | refine awp_exit ?_
        | refine awp_skip ?_
        | refine And.intro (by first | omega | assumption | exact setOk_ge (by decide +kernel) | exact setOk_late (by decide +kernel) (by (simp (disch := omega) only [sx0, sx1, sx2, sx3, sx4, sx5, sx6, isBytes, ATy.isAgg, ATy.known, tyb, Nat.reduceAdd, Nat.reduceMul, Nat.reduceEqDiff, Nat.reduceLT, Nat.reduceLeDiff, ↓reduceIte, implies_true, decide_true, decide_false, ne_eq, Value.oneCell', Int.reduceToNat, ite_self, beq_self_eq_true, bne_self_eq_false, gt_iff_lt, Int.reduceEq, Int.reduceLT, Int.reduceLE, Int.reduceNe, List.forall_mem_cons, false_implies, forall_const, natS, *]; rfl)) (by refine wkR_row ?_; repeat' (first | exact trivial | refine wkL_c (by decide +kernel) ?_)) | exact Nat.le_of_ble_eq_true (by kernel_rfl)) ?_
        | refine nqif_ways (fun h => ?_) ?_
        | ((first | refine gif_ways (fun h => ?_) (fun h => ?_) | refine cif_ways (fun h => ?_) (fun h => ?_)) <;> (try simp only [decide_eq_true_eq, decide_eq_false_iff_not, Bool.not_eq_true', Bool.not_eq_false', Bool.not_true, Bool.not_false] at h) <;> (try (exfalso; omega)))) <;> (try (simp (disch := omega) only [sx0, sx1, sx2, sx3, sx4, sx5, sx6, isBytes, ATy.isAgg, ATy.known, tyb, Nat.reduceAdd, Nat.reduceMul, Nat.reduceEqDiff, Nat.reduceLT, Nat.reduceLeDiff, ↓reduceIte, implies_true, decide_true, decide_false, ne_eq, Value.oneCell', Int.reduceToNat, ite_self, beq_self_eq_true, bne_self_eq_false, gt_iff_lt, Int.reduceEq, Int.reduceLT, Int.reduceLE, Int.reduceNe, List.forall_mem_cons, false_implies, forall_const, *])))))
    all_goals simp only [sxc, sx6, z0, p0, Nat.reduceEqDiff, ↓reduceIte, AV.ex.injEq, Value.bool.injEq, Value.int.injEq, Value.string.injEq, List.all_append, List.map_append, Tryd.f16, *]
theorem RFormat_no (a d : Int) (h : valid3 a = false ∨ placesB d = false) : Con Tryd.prog Ctx 16 [.ex (.int .i64 a), .ex (.int .i64 d)] (.val (.tup [.ex (.string (formatS a d)), .ex (.int .i64 (formatE a d))])) := by
  refine con_val base Tryd.func16 rfl rfl (by kernel_rfl) (Nat.le_of_ble_eq_true rfl) ?_
  rw [init_eq]
  obtain ⟨r1, r2⟩ := format_no h
  rcases h with h | h
  · (repeat' (first
    | refine awp_seq ?_
    | refine awp_block ?_
    | (refine awp_ret ?_; simp only [then_ret, block_ret, end_ret])
    | ((first
        | refine call_val (by first | (simp only [sxc, sx6, z0, p0, Nat.reduceEqDiff, ↓reduceIte, AV.ex.injEq, Value.bool.injEq, Value.int.injEq, Value.string.injEq, List.all_append, List.map_append]; (try rfl); done) | (simp only [sxc, sx6, z0, p0, Nat.reduceEqDiff, ↓reduceIte, AV.ex.injEq, Value.bool.injEq, Value.int.injEq, Value.string.injEq, List.all_append, List.map_append, *]; (try rfl); done)) (RValid_con a) ?_
        | refine vplain ?_
        | refine vdraws (by kernel_rfl) ?_
        | refine vbuildS (by simp only [tyb, elemOf_s]) (by simp only [tyb, elemOf_s, List.length_cons, List.length_nil, List.all_cons, List.all_nil, Value.oneCell', Bool.and_self, Nat.reduceAdd, Nat.reduceMul, Nat.reduceLeDiff, Nat.reduceLT, true_and, and_true, and_self, Nat.lt_add_one, Nat.zero_mul, Nat.zero_le, Nat.one_mul]) ?_
        | refine vcond ?_
        | refine awp_exit ?_
        | refine awp_skip ?_
        | refine And.intro (by first | omega | assumption | exact setOk_ge (by decide +kernel) | exact setOk_late (by decide +kernel) (by (simp (disch := omega) only [sx0, sx1, sx2, sx3, sx4, sx5, sx6, isBytes, ATy.isAgg, ATy.known, tyb, Nat.reduceAdd, Nat.reduceMul, Nat.reduceEqDiff, Nat.reduceLT, Nat.reduceLeDiff, ↓reduceIte, implies_true, decide_true, decide_false, ne_eq, Value.oneCell', Int.reduceToNat, ite_self, beq_self_eq_true, bne_self_eq_false, gt_iff_lt, Int.reduceEq, Int.reduceLT, Int.reduceLE, Int.reduceNe, List.forall_mem_cons, false_implies, forall_const, natS, *]; rfl)) (by refine wkR_row ?_; repeat' (first | exact trivial | refine wkL_c (by decide +kernel) ?_)) | exact Nat.le_of_ble_eq_true (by kernel_rfl)) ?_
        | refine nqif_ways (fun h => ?_) ?_
        | ((first | refine gif_ways (fun h => ?_) (fun h => ?_) | refine cif_ways (fun h => ?_) (fun h => ?_)) <;> (try simp only [decide_eq_true_eq, decide_eq_false_iff_not, Bool.not_eq_true', Bool.not_eq_false', Bool.not_true, Bool.not_false] at h) <;> (try (exfalso; omega)))) <;> (try (simp (disch := omega) only [sx0, sx1, sx2, sx3, sx4, sx5, sx6, isBytes, ATy.isAgg, ATy.known, tyb, Nat.reduceAdd, Nat.reduceMul, Nat.reduceEqDiff, Nat.reduceLT, Nat.reduceLeDiff, ↓reduceIte, implies_true, decide_true, decide_false, ne_eq, Value.oneCell', Int.reduceToNat, ite_self, beq_self_eq_true, bne_self_eq_false, gt_iff_lt, Int.reduceEq, Int.reduceLT, Int.reduceLE, Int.reduceNe, List.forall_mem_cons, false_implies, forall_const, *])))))
    all_goals simp only [sxc, sx6, z0, p0, Nat.reduceEqDiff, ↓reduceIte, AV.ex.injEq, Value.bool.injEq, Value.int.injEq, Value.string.injEq, List.all_append, List.map_append, Tryd.f16, *]
  · rw [placesB_no] at h
    cases hv : valid3 a with
    | true =>
      (repeat' (first
    | refine awp_seq ?_
    | refine awp_block ?_
    | (refine awp_ret ?_; simp only [then_ret, block_ret, end_ret])
    | ((first
        | refine call_val (by first | (simp only [sxc, sx6, z0, p0, Nat.reduceEqDiff, ↓reduceIte, AV.ex.injEq, Value.bool.injEq, Value.int.injEq, Value.string.injEq, List.all_append, List.map_append]; (try rfl); done) | (simp only [sxc, sx6, z0, p0, Nat.reduceEqDiff, ↓reduceIte, AV.ex.injEq, Value.bool.injEq, Value.int.injEq, Value.string.injEq, List.all_append, List.map_append, *]; (try rfl); done)) (RValid_con a) ?_
        | refine vplain ?_
        | refine vdraws (by kernel_rfl) ?_
        | refine vbuildS (by simp only [tyb, elemOf_s]) (by simp only [tyb, elemOf_s, List.length_cons, List.length_nil, List.all_cons, List.all_nil, Value.oneCell', Bool.and_self, Nat.reduceAdd, Nat.reduceMul, Nat.reduceLeDiff, Nat.reduceLT, true_and, and_true, and_self, Nat.lt_add_one, Nat.zero_mul, Nat.zero_le, Nat.one_mul]) ?_
        | refine vcond ?_
        | refine awp_exit ?_
        | refine awp_skip ?_
        | refine And.intro (by first | omega | assumption | exact setOk_ge (by decide +kernel) | exact setOk_late (by decide +kernel) (by (simp (disch := omega) only [sx0, sx1, sx2, sx3, sx4, sx5, sx6, isBytes, ATy.isAgg, ATy.known, tyb, Nat.reduceAdd, Nat.reduceMul, Nat.reduceEqDiff, Nat.reduceLT, Nat.reduceLeDiff, ↓reduceIte, implies_true, decide_true, decide_false, ne_eq, Value.oneCell', Int.reduceToNat, ite_self, beq_self_eq_true, bne_self_eq_false, gt_iff_lt, Int.reduceEq, Int.reduceLT, Int.reduceLE, Int.reduceNe, List.forall_mem_cons, false_implies, forall_const, natS, *]; rfl)) (by refine wkR_row ?_; repeat' (first | exact trivial | refine wkL_c (by decide +kernel) ?_)) | exact Nat.le_of_ble_eq_true (by kernel_rfl)) ?_
        | refine nqif_ways (fun h => ?_) ?_
        | ((first | refine gif_ways (fun h => ?_) (fun h => ?_) | refine cif_ways (fun h => ?_) (fun h => ?_)) <;> (try simp only [decide_eq_true_eq, decide_eq_false_iff_not, Bool.not_eq_true', Bool.not_eq_false', Bool.not_true, Bool.not_false] at h) <;> (try (exfalso; omega)))) <;> (try (simp (disch := omega) only [sx0, sx1, sx2, sx3, sx4, sx5, sx6, isBytes, ATy.isAgg, ATy.known, tyb, Nat.reduceAdd, Nat.reduceMul, Nat.reduceEqDiff, Nat.reduceLT, Nat.reduceLeDiff, ↓reduceIte, implies_true, decide_true, decide_false, ne_eq, Value.oneCell', Int.reduceToNat, ite_self, beq_self_eq_true, bne_self_eq_false, gt_iff_lt, Int.reduceEq, Int.reduceLT, Int.reduceLE, Int.reduceNe, List.forall_mem_cons, false_implies, forall_const, *])))))
      all_goals simp only [sxc, sx6, z0, p0, Nat.reduceEqDiff, ↓reduceIte, AV.ex.injEq, Value.bool.injEq, Value.int.injEq, Value.string.injEq, List.all_append, List.map_append, Tryd.f16, *]
    | false =>
      (repeat' (first
    | refine awp_seq ?_
    | refine awp_block ?_
    | (refine awp_ret ?_; simp only [then_ret, block_ret, end_ret])
    | ((first
        | refine call_val (by first | (simp only [sxc, sx6, z0, p0, Nat.reduceEqDiff, ↓reduceIte, AV.ex.injEq, Value.bool.injEq, Value.int.injEq, Value.string.injEq, List.all_append, List.map_append]; (try rfl); done) | (simp only [sxc, sx6, z0, p0, Nat.reduceEqDiff, ↓reduceIte, AV.ex.injEq, Value.bool.injEq, Value.int.injEq, Value.string.injEq, List.all_append, List.map_append, *]; (try rfl); done)) (RValid_con a) ?_
        | refine vplain ?_
        | refine vdraws (by kernel_rfl) ?_
        | refine vbuildS (by simp only [tyb, elemOf_s]) (by simp only [tyb, elemOf_s, List.length_cons, List.length_nil, List.all_cons, List.all_nil, Value.oneCell', Bool.and_self, Nat.reduceAdd, Nat.reduceMul, Nat.reduceLeDiff, Nat.reduceLT, true_and, and_true, and_self, Nat.lt_add_one, Nat.zero_mul, Nat.zero_le, Nat.one_mul]) ?_
        | refine vcond ?_
        | refine awp_exit ?_
        | refine awp_skip ?_
        | refine And.intro (by first | omega | assumption | exact setOk_ge (by decide +kernel) | exact setOk_late (by decide +kernel) (by (simp (disch := omega) only [sx0, sx1, sx2, sx3, sx4, sx5, sx6, isBytes, ATy.isAgg, ATy.known, tyb, Nat.reduceAdd, Nat.reduceMul, Nat.reduceEqDiff, Nat.reduceLT, Nat.reduceLeDiff, ↓reduceIte, implies_true, decide_true, decide_false, ne_eq, Value.oneCell', Int.reduceToNat, ite_self, beq_self_eq_true, bne_self_eq_false, gt_iff_lt, Int.reduceEq, Int.reduceLT, Int.reduceLE, Int.reduceNe, List.forall_mem_cons, false_implies, forall_const, natS, *]; rfl)) (by refine wkR_row ?_; repeat' (first | exact trivial | refine wkL_c (by decide +kernel) ?_)) | exact Nat.le_of_ble_eq_true (by kernel_rfl)) ?_
        | refine nqif_ways (fun h => ?_) ?_
        | ((first | refine gif_ways (fun h => ?_) (fun h => ?_) | refine cif_ways (fun h => ?_) (fun h => ?_)) <;> (try simp only [decide_eq_true_eq, decide_eq_false_iff_not, Bool.not_eq_true', Bool.not_eq_false', Bool.not_true, Bool.not_false] at h) <;> (try (exfalso; omega)))) <;> (try (simp (disch := omega) only [sx0, sx1, sx2, sx3, sx4, sx5, sx6, isBytes, ATy.isAgg, ATy.known, tyb, Nat.reduceAdd, Nat.reduceMul, Nat.reduceEqDiff, Nat.reduceLT, Nat.reduceLeDiff, ↓reduceIte, implies_true, decide_true, decide_false, ne_eq, Value.oneCell', Int.reduceToNat, ite_self, beq_self_eq_true, bne_self_eq_false, gt_iff_lt, Int.reduceEq, Int.reduceLT, Int.reduceLE, Int.reduceNe, List.forall_mem_cons, false_implies, forall_const, *])))))
      all_goals simp only [sxc, sx6, z0, p0, Nat.reduceEqDiff, ↓reduceIte, AV.ex.injEq, Value.bool.injEq, Value.int.injEq, Value.string.injEq, List.all_append, List.map_append, Tryd.f16, *]
theorem RFormat_con (a d : Int) : Con Tryd.prog Ctx 16 [.ex (.int .i64 a), .ex (.int .i64 d)] (.val (.tup [.ex (.string (formatS a d)), .ex (.int .i64 (formatE a d))])) := by
  by_cases h : valid3 a = true ∧ placesB d = true
  · obtain ⟨h1, h2⟩ := h
    obtain ⟨d1, d2⟩ := placesB_iff.1 h2
    obtain ⟨e, rfl⟩ : ∃ e : Nat, d = e := ⟨d.toNat, by omega⟩
    by_cases hs : a < 0
    · exact RFormat_neg a e h1 h2 hs
    · exact RFormat_pos a e h1 h2 hs
  · exact RFormat_no a d (by
      cases h1 : valid3 a
      · exact .inl rfl
      · cases h2 : placesB d
        · exact .inr rfl
        · exact absurd ⟨h1, h2⟩ h)
end Go.Proofs.YtaphbajfjmhpnaaDoor
