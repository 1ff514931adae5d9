/-
  Chapter 03, walked: amounts, read as the reference has it. Conditions: those that each theorem states.
-/
import Derived.Test.YtaphbajfjmhpnaaDoorC03H
namespace Go.Proofs.YtaphbajfjmhpnaaDoor
open Go.RowKit
set_option maxRecDepth 100000
set_option linter.unusedSimpArgs false

theorem RParse_no (s : ByteArray) (d : Int) (h : placesB d = false) : Con Tryd.prog Ctx 18 [.ex (.string s), .ex (.int .i64 d)] (.val (.tup [.ex (.int .i64 (parseV s.data.toList d)), .ex (.int .i64 (parseE s.data.toList d))])) := by
  refine con_val base Tryd.func18 rfl rfl (by kernel_rfl) (Nat.le_of_ble_eq_true rfl) ?_
  rw [init_eq]
  obtain ⟨r1, r2⟩ := parse_no (l := s.data.toList) h
  rw [placesB_no] at h
  (repeat' (first
    | refine awp_seq ?_
    | refine awp_block ?_
    | (refine awp_ret ?_; simp only [then_ret, block_ret, end_ret])
    | ((first
        | refine vplain ?_
        | refine vdraws (by kernel_rfl) ?_
        | refine vbuildS (by simp only [tyb, elemOf_s]) (by simp only [tyb, elemOf_s, List.length_cons, List.length_nil, List.all_cons, List.all_nil, Value.oneCell', Bool.and_self, Nat.reduceAdd, Nat.reduceMul, Nat.reduceLeDiff, Nat.reduceLT, true_and, and_true, and_self, Nat.lt_add_one, Nat.zero_mul, Nat.zero_le, Nat.one_mul]) ?_
        | refine vcond ?_
        | refine awp_exit ?_
        | refine awp_skip ?_
        | refine And.intro (by first | omega | assumption | exact setOk_ge (by decide +kernel) | exact setOk_late (by decide +kernel) (by (simp (disch := omega) only [sx0, sx1, sx2, sx3, sx4, sx5, sx6, isBytes, ATy.isAgg, ATy.known, tyb, Nat.reduceAdd, Nat.reduceMul, Nat.reduceEqDiff, Nat.reduceLT, Nat.reduceLeDiff, ↓reduceIte, implies_true, decide_true, decide_false, ne_eq, Value.oneCell', Int.reduceToNat, ite_self, beq_self_eq_true, bne_self_eq_false, gt_iff_lt, Int.reduceEq, Int.reduceLT, Int.reduceLE, Int.reduceNe, List.forall_mem_cons, false_implies, forall_const, natS, *]; rfl)) (by refine wkR_row ?_; repeat' (first | exact trivial | refine wkL_c (by decide +kernel) ?_)) | exact Nat.le_of_ble_eq_true (by kernel_rfl)) ?_
        | refine nqif_ways (fun h => ?_) ?_
        | ((first | refine gif_ways (fun h => ?_) (fun h => ?_) | refine cif_ways (fun h => ?_) (fun h => ?_)) <;> (try simp only [decide_eq_true_eq, decide_eq_false_iff_not, Bool.not_eq_true', Bool.not_eq_false', Bool.not_true, Bool.not_false] at h) <;> (try (exfalso; omega)))) <;> (try (simp (disch := omega) only [sx0, sx1, sx2, sx3, sx4, sx5, sx6, isBytes, ATy.isAgg, ATy.known, tyb, Nat.reduceAdd, Nat.reduceMul, Nat.reduceEqDiff, Nat.reduceLT, Nat.reduceLeDiff, ↓reduceIte, implies_true, decide_true, decide_false, ne_eq, Value.oneCell', Int.reduceToNat, ite_self, beq_self_eq_true, bne_self_eq_false, gt_iff_lt, Int.reduceEq, Int.reduceLT, Int.reduceLE, Int.reduceNe, List.forall_mem_cons, false_implies, forall_const, *])))))
  all_goals simp only [sxc, sx6, z0, p0, Nat.reduceEqDiff, ↓reduceIte, AV.ex.injEq, Value.bool.injEq, Value.int.injEq, Value.string.injEq, List.all_append, List.map_append, Tryd.f18, *]
theorem parse_nope {l : List UInt8} {d : Nat} (h : placesB d = true) (h2 : splitF (digL l) d = none) : parseV l d = 0 ∧ parseE l d = 2 := by
  obtain ⟨r1, r2⟩ := parse_yes (l := l) h
  rw [r1, r2, h2]
  exact ⟨rfl, rfl⟩
theorem parse_fin0 {l D : List UInt8} {d : Nat} {m : Bool} (h : placesB d = true) (h2 : splitF (digL l) d = some D) (hm : negL l = m) (h0 : natV 0 D = 0) : parseV l d = 0 ∧ parseE l d = if m = true then 2 else 0 := by
  obtain ⟨r1, r2⟩ := parse_yes (l := l) h
  obtain ⟨z1, z2⟩ := parse'_zero (m := m) h0
  rw [r1, r2, h2, hm]
  exact ⟨z1, z2⟩
theorem parse_finB {l D : List UInt8} {d : Nat} (h : placesB d = true) (h2 : splitF (digL l) d = some D) (h0 : 1000000000000 < natV 0 D) : parseV l d = 0 ∧ parseE l d = 6 := by
  obtain ⟨r1, r2⟩ := parse_yes (l := l) h
  rw [r1, r2, h2]
  exact parse'_big h0
theorem parse_finO {l D : List UInt8} {d v : Nat} {m : Bool} (h : placesB d = true) (h2 : splitF (digL l) d = some D) (hm : negL l = m) (hv : natV 0 D = v) (h0 : v ≠ 0) (h1 : v ≤ 1000000000000) : parseV l d = (if m = true then -(v : Int) else v) ∧ parseE l d = 0 := by
  obtain ⟨r1, r2⟩ := parse_yes (l := l) h
  rw [r1, r2, h2, hm, ← hv]
  exact parse'_ok (by rw [hv]; exact h0) (by rw [hv]; exact h1)
theorem okAt_pt {W : Nat} {c : UInt8} (h : c.toNat = 46) : okAt W W c := by unfold okAt; rw [if_pos rfl]; exact h
theorem okAt_dig {W k : Nat} {c : UInt8} (hk : k ≠ W) (h : isD c = true) : okAt W k c := by unfold okAt; rw [if_neg hk]; exact h
theorem okAt_no1 {W : Nat} {c : UInt8} (h : ¬ c.toNat = 46) : ¬ okAt W W c := by unfold okAt; rw [if_pos rfl]; exact h
theorem okAt_no2 {W k : Nat} {c : UInt8} (hk : k ≠ W) (h : ¬ isD c = true) : ¬ okAt W k c := by unfold okAt; rw [if_neg hk]; exact h
theorem isD_no {c : UInt8} (h : ¬ isD c = true) : c.toNat < 48 ∨ 57 < c.toNat := by rw [isD_iff] at h; omega
set_option maxHeartbeats 1600000 in
theorem RParse_neg {s t : ByteArray} {d W : Nat} (h : placesB d = true) (hd4 : d ≤ 4) (hm : negL s.data.toList = true) (hT : Hid (digL s.data.toList = t.data.toList)) (hsz : s.size ≤ 140737488355328) (htz : t.size ≤ 140737488355328) (s0 : 0 < s.size) (hneg : ((s[0]'s0).toNat : Int) = 45) (ht : s.extract 1 s.size = t) (hW : Hid (Wh t.data.toList d W)) (hW1 : 1 ≤ W) (hWt : W ≤ t.size) (hwd : (d = 0 ∧ W = t.size) ∨ (0 < d ∧ W + d + 1 ≤ t.size ∧ t.size ≤ W + d + 1)) :
    Con Tryd.prog Ctx 18 [.ex (.string s), .ex (.int .i64 d)] (.val (.tup [.ex (.int .i64 (parseV s.data.toList d)), .ex (.int .i64 (parseE s.data.toList d))])) := by
  refine con_val base Tryd.func18 rfl rfl (by kernel_rfl) (Nat.le_of_ble_eq_true rfl) ?_
  rw [init_eq]
  obtain ⟨d1, d2⟩ := placesB_iff.1 h
  have hm' := Lib.hid hm
  have hpc := Lib.hid h
  have nope : Hid (∀ k c, t.data.toList[k]? = some c → ¬ okAt W k c → parseV s.data.toList d = 0 ∧ parseE s.data.toList d = 2) := Lib.hid fun k c e hc => parse_nope h (by rw [hT.out]; exact split_bad hW.out (scan_stop e hc))
  have nope0 : Hid (∀ x, t.data.toList[0]? = some x → x.toNat = 48 → 1 < W → parseV s.data.toList d = 0 ∧ parseE s.data.toList d = 2) := Lib.hid fun x e hx h1 => parse_nope h (by rw [hT.out]; exact split_bad hW.out fun g => g.2.1 ⟨by rw [e, u8_eq.2 (show x.toNat = (48 : UInt8).toNat from hx)], h1⟩)
  clear hm h
  have t0 : 0 < t.size := by omega
  have wInt : Hid (((t.size : Int) - (d : Int) - 1 = W ∧ 0 < (d : Int)) ∨ ((d : Int) ≤ 0 ∧ (t.size : Int) = W)) := Lib.hid (by omega)
  have f0 := byte_at t 0 (by omega)
  generalize hx : t[0]'(by omega) = x at f0
  by_cases h48 : x.toNat = 48 ∧ 1 < W
  · obtain ⟨r1, r2⟩ := nope0.out x f0 h48.1 h48.2
    obtain ⟨h1, h2⟩ := h48
    have h1' : (x.toNat : Int) = 48 := by omega
    clear f0 h1
    rcases wInt.out with ⟨w1, w2⟩ | ⟨w1, w2⟩
    · clear hwd
      (repeat' (first
    | refine awp_seq ?_
    | refine awp_block ?_
    | (refine awp_ret ?_; simp only [then_ret, block_ret, end_ret])
    | ((first
        | refine vplain ?_
        | refine vdraws (by kernel_rfl) ?_
        | refine vbuildS (by simp only [tyb, elemOf_s]) (by simp only [tyb, elemOf_s, List.length_cons, List.length_nil, List.all_cons, List.all_nil, Value.oneCell', Bool.and_self, Nat.reduceAdd, Nat.reduceMul, Nat.reduceLeDiff, Nat.reduceLT, true_and, and_true, and_self, Nat.lt_add_one, Nat.zero_mul, Nat.zero_le, Nat.one_mul]) ?_
        | refine vcond ?_
        | refine awp_exit ?_
        | refine awp_skip ?_
        | refine And.intro (by first | omega | assumption | exact setOk_ge (by decide +kernel) | exact setOk_late (by decide +kernel) (by (simp (disch := omega) only [sx0, sx1, sx2, sx3, sx4, sx5, sx6, isBytes, ATy.isAgg, ATy.known, tyb, Nat.reduceAdd, Nat.reduceMul, Nat.reduceEqDiff, Nat.reduceLT, Nat.reduceLeDiff, ↓reduceIte, implies_true, decide_true, decide_false, ne_eq, Value.oneCell', Int.reduceToNat, ite_self, beq_self_eq_true, bne_self_eq_false, gt_iff_lt, Int.reduceEq, Int.reduceLT, Int.reduceLE, Int.reduceNe, List.forall_mem_cons, false_implies, forall_const, natS, *]; rfl)) (by refine wkR_row ?_; repeat' (first | exact trivial | refine wkL_c (by decide +kernel) ?_)) | exact Nat.le_of_ble_eq_true (by kernel_rfl)) ?_
        | refine nqif_ways (fun h => ?_) ?_
        | ((first | refine gif_ways (fun h => ?_) (fun h => ?_) | refine cif_ways (fun h => ?_) (fun h => ?_)) <;> (try simp only [decide_eq_true_eq, decide_eq_false_iff_not, Bool.not_eq_true', Bool.not_eq_false', Bool.not_true, Bool.not_false] at h) <;> (try (exfalso; omega)))) <;> (try (simp (disch := omega) only [sx0, sx1, sx2, sx3, sx4, sx5, sx6, isBytes, ATy.isAgg, ATy.known, tyb, Nat.reduceAdd, Nat.reduceMul, Nat.reduceEqDiff, Nat.reduceLT, Nat.reduceLeDiff, ↓reduceIte, implies_true, decide_true, decide_false, ne_eq, Value.oneCell', Int.reduceToNat, ite_self, beq_self_eq_true, bne_self_eq_false, gt_iff_lt, Int.reduceEq, Int.reduceLT, Int.reduceLE, Int.reduceNe, List.forall_mem_cons, false_implies, forall_const, *])))))
      all_goals simp only [sxc, sx6, z0, p0, Nat.reduceEqDiff, ↓reduceIte, AV.ex.injEq, Value.bool.injEq, Value.int.injEq, Value.string.injEq, List.all_append, List.map_append, Tryd.f18, *]
    · clear hwd
      (repeat' (first
    | refine awp_seq ?_
    | refine awp_block ?_
    | (refine awp_ret ?_; simp only [then_ret, block_ret, end_ret])
    | ((first
        | refine vplain ?_
        | refine vdraws (by kernel_rfl) ?_
        | refine vbuildS (by simp only [tyb, elemOf_s]) (by simp only [tyb, elemOf_s, List.length_cons, List.length_nil, List.all_cons, List.all_nil, Value.oneCell', Bool.and_self, Nat.reduceAdd, Nat.reduceMul, Nat.reduceLeDiff, Nat.reduceLT, true_and, and_true, and_self, Nat.lt_add_one, Nat.zero_mul, Nat.zero_le, Nat.one_mul]) ?_
        | refine vcond ?_
        | refine awp_exit ?_
        | refine awp_skip ?_
        | refine And.intro (by first | omega | assumption | exact setOk_ge (by decide +kernel) | exact setOk_late (by decide +kernel) (by (simp (disch := omega) only [sx0, sx1, sx2, sx3, sx4, sx5, sx6, isBytes, ATy.isAgg, ATy.known, tyb, Nat.reduceAdd, Nat.reduceMul, Nat.reduceEqDiff, Nat.reduceLT, Nat.reduceLeDiff, ↓reduceIte, implies_true, decide_true, decide_false, ne_eq, Value.oneCell', Int.reduceToNat, ite_self, beq_self_eq_true, bne_self_eq_false, gt_iff_lt, Int.reduceEq, Int.reduceLT, Int.reduceLE, Int.reduceNe, List.forall_mem_cons, false_implies, forall_const, natS, *]; rfl)) (by refine wkR_row ?_; repeat' (first | exact trivial | refine wkL_c (by decide +kernel) ?_)) | exact Nat.le_of_ble_eq_true (by kernel_rfl)) ?_
        | refine nqif_ways (fun h => ?_) ?_
        | ((first | refine gif_ways (fun h => ?_) (fun h => ?_) | refine cif_ways (fun h => ?_) (fun h => ?_)) <;> (try simp only [decide_eq_true_eq, decide_eq_false_iff_not, Bool.not_eq_true', Bool.not_eq_false', Bool.not_true, Bool.not_false] at h) <;> (try (exfalso; omega)))) <;> (try (simp (disch := omega) only [sx0, sx1, sx2, sx3, sx4, sx5, sx6, isBytes, ATy.isAgg, ATy.known, tyb, Nat.reduceAdd, Nat.reduceMul, Nat.reduceEqDiff, Nat.reduceLT, Nat.reduceLeDiff, ↓reduceIte, implies_true, decide_true, decide_false, ne_eq, Value.oneCell', Int.reduceToNat, ite_self, beq_self_eq_true, bne_self_eq_false, gt_iff_lt, Int.reduceEq, Int.reduceLT, Int.reduceLE, Int.reduceNe, List.forall_mem_cons, false_implies, forall_const, *])))))
      all_goals simp only [sxc, sx6, z0, p0, Nat.reduceEqDiff, ↓reduceIte, AV.ex.injEq, Value.bool.injEq, Value.int.injEq, Value.string.injEq, List.all_append, List.map_append, Tryd.f18, *]
  · have hno := Lib.hid (show ¬ (t.data.toList[0]? = some 48 ∧ 1 < W) from fun ⟨g1, g2⟩ => h48 ⟨by rw [f0, Option.some.injEq] at g1; rw [g1]; rfl, g2⟩)
    have h48' : ¬ (x.toNat : Int) = 48 ∨ W ≤ 1 := by omega
    clear f0 h48
    rcases wInt.out with ⟨w1, w2⟩ | ⟨w1, w2⟩
    all_goals
      (repeat' (first
    | refine awp_seq ?_
    | refine awp_block ?_
    | (refine awp_ret ?_; simp only [then_ret, block_ret, end_ret])
    | ((first
        | refine vplain ?_
        | refine vdraws (by kernel_rfl) ?_
        | refine vbuildS (by simp only [tyb, elemOf_s]) (by simp only [tyb, elemOf_s, List.length_cons, List.length_nil, List.all_cons, List.all_nil, Value.oneCell', Bool.and_self, Nat.reduceAdd, Nat.reduceMul, Nat.reduceLeDiff, Nat.reduceLT, true_and, and_true, and_self, Nat.lt_add_one, Nat.zero_mul, Nat.zero_le, Nat.one_mul]) ?_
        | refine vcond ?_
        | refine awp_exit ?_
        | refine awp_skip ?_
        | refine And.intro (by first | omega | assumption | exact setOk_ge (by decide +kernel) | exact setOk_late (by decide +kernel) (by (simp (disch := omega) only [sx0, sx1, sx2, sx3, sx4, sx5, sx6, isBytes, ATy.isAgg, ATy.known, tyb, Nat.reduceAdd, Nat.reduceMul, Nat.reduceEqDiff, Nat.reduceLT, Nat.reduceLeDiff, ↓reduceIte, implies_true, decide_true, decide_false, ne_eq, Value.oneCell', Int.reduceToNat, ite_self, beq_self_eq_true, bne_self_eq_false, gt_iff_lt, Int.reduceEq, Int.reduceLT, Int.reduceLE, Int.reduceNe, List.forall_mem_cons, false_implies, forall_const, natS, *]; rfl)) (by refine wkR_row ?_; repeat' (first | exact trivial | refine wkL_c (by decide +kernel) ?_)) | exact Nat.le_of_ble_eq_true (by kernel_rfl)) ?_
        | refine nqif_ways (fun h => ?_) ?_
        | ((first | refine gif_ways (fun h => ?_) (fun h => ?_) | refine cif_ways (fun h => ?_) (fun h => ?_)) <;> (try simp only [decide_eq_true_eq, decide_eq_false_iff_not, Bool.not_eq_true', Bool.not_eq_false', Bool.not_true, Bool.not_false] at h) <;> (try (exfalso; omega)))) <;> (try (simp (disch := omega) only [sx0, sx1, sx2, sx3, sx4, sx5, sx6, isBytes, ATy.isAgg, ATy.known, tyb, Nat.reduceAdd, Nat.reduceMul, Nat.reduceEqDiff, Nat.reduceLT, Nat.reduceLeDiff, ↓reduceIte, implies_true, decide_true, decide_false, ne_eq, Value.oneCell', Int.reduceToNat, ite_self, beq_self_eq_true, bne_self_eq_false, gt_iff_lt, Int.reduceEq, Int.reduceLT, Int.reduceLE, Int.reduceNe, List.forall_mem_cons, false_implies, forall_const, *])))))
      all_goals
        refine vloop (fun n tm hp nx => ∃ (k v q : Nat) (sm lg : Bool), n = t.size - k ∧ k ≤ t.size ∧ tm 6 = .ex (.string t) ∧ tm 7 = .ex (.bool true) ∧ tm 8 = .ex (.int .i64 W) ∧ tm 9 = .ex (.int .i64 q) ∧ tm 10 = .ex (.bool sm) ∧ tm 11 = .ex (.bool lg) ∧ tm 12 = .ex (.int .i64 k) ∧ q ≤ 10000000000009 ∧ (sm = true ↔ v ≠ 0) ∧ (lg = true ↔ 1000000000000 < v) ∧ (lg = false → q = v) ∧ Hid (natV 0 (digK t.data.toList W k) = v) ∧ Hid (scanOk t.data.toList W k)) t.size ⟨0, 0, 0, false, false, rfl, Nat.zero_le _, by (first | rfl | (simp (disch := omega) only [sx0, sx1, sx2, sx3, sx4, sx5, sx6, isBytes, ATy.isAgg, ATy.known, tyb, Nat.reduceAdd, Nat.reduceMul, Nat.reduceEqDiff, Nat.reduceLT, Nat.reduceLeDiff, ↓reduceIte, implies_true, decide_true, decide_false, ne_eq, Value.oneCell', Int.reduceToNat, ite_self, beq_self_eq_true, bne_self_eq_false, gt_iff_lt, Int.reduceEq, Int.reduceLT, Int.reduceLE, Int.reduceNe, List.forall_mem_cons, false_implies, forall_const, natS, *])), by (first | rfl | (simp (disch := omega) only [sx0, sx1, sx2, sx3, sx4, sx5, sx6, isBytes, ATy.isAgg, ATy.known, tyb, Nat.reduceAdd, Nat.reduceMul, Nat.reduceEqDiff, Nat.reduceLT, Nat.reduceLeDiff, ↓reduceIte, implies_true, decide_true, decide_false, ne_eq, Value.oneCell', Int.reduceToNat, ite_self, beq_self_eq_true, bne_self_eq_false, gt_iff_lt, Int.reduceEq, Int.reduceLT, Int.reduceLE, Int.reduceNe, List.forall_mem_cons, false_implies, forall_const, natS, *])), by (simp (disch := omega) only [sx0, sx1, sx2, sx3, sx4, sx5, sx6, isBytes, ATy.isAgg, ATy.known, tyb, Nat.reduceAdd, Nat.reduceMul, Nat.reduceEqDiff, Nat.reduceLT, Nat.reduceLeDiff, ↓reduceIte, implies_true, decide_true, decide_false, ne_eq, Value.oneCell', Int.reduceToNat, ite_self, beq_self_eq_true, bne_self_eq_false, gt_iff_lt, Int.reduceEq, Int.reduceLT, Int.reduceLE, Int.reduceNe, List.forall_mem_cons, false_implies, forall_const, natS, *]; (try rfl)), by (first | rfl | (simp (disch := omega) only [sx0, sx1, sx2, sx3, sx4, sx5, sx6, isBytes, ATy.isAgg, ATy.known, tyb, Nat.reduceAdd, Nat.reduceMul, Nat.reduceEqDiff, Nat.reduceLT, Nat.reduceLeDiff, ↓reduceIte, implies_true, decide_true, decide_false, ne_eq, Value.oneCell', Int.reduceToNat, ite_self, beq_self_eq_true, bne_self_eq_false, gt_iff_lt, Int.reduceEq, Int.reduceLT, Int.reduceLE, Int.reduceNe, List.forall_mem_cons, false_implies, forall_const, natS, *])), by (first | rfl | (simp (disch := omega) only [sx0, sx1, sx2, sx3, sx4, sx5, sx6, isBytes, ATy.isAgg, ATy.known, tyb, Nat.reduceAdd, Nat.reduceMul, Nat.reduceEqDiff, Nat.reduceLT, Nat.reduceLeDiff, ↓reduceIte, implies_true, decide_true, decide_false, ne_eq, Value.oneCell', Int.reduceToNat, ite_self, beq_self_eq_true, bne_self_eq_false, gt_iff_lt, Int.reduceEq, Int.reduceLT, Int.reduceLE, Int.reduceNe, List.forall_mem_cons, false_implies, forall_const, natS, *])), by (first | rfl | (simp (disch := omega) only [sx0, sx1, sx2, sx3, sx4, sx5, sx6, isBytes, ATy.isAgg, ATy.known, tyb, Nat.reduceAdd, Nat.reduceMul, Nat.reduceEqDiff, Nat.reduceLT, Nat.reduceLeDiff, ↓reduceIte, implies_true, decide_true, decide_false, ne_eq, Value.oneCell', Int.reduceToNat, ite_self, beq_self_eq_true, bne_self_eq_false, gt_iff_lt, Int.reduceEq, Int.reduceLT, Int.reduceLE, Int.reduceNe, List.forall_mem_cons, false_implies, forall_const, natS, *])), by (first | rfl | (simp (disch := omega) only [sx0, sx1, sx2, sx3, sx4, sx5, sx6, isBytes, ATy.isAgg, ATy.known, tyb, Nat.reduceAdd, Nat.reduceMul, Nat.reduceEqDiff, Nat.reduceLT, Nat.reduceLeDiff, ↓reduceIte, implies_true, decide_true, decide_false, ne_eq, Value.oneCell', Int.reduceToNat, ite_self, beq_self_eq_true, bne_self_eq_false, gt_iff_lt, Int.reduceEq, Int.reduceLT, Int.reduceLE, Int.reduceNe, List.forall_mem_cons, false_implies, forall_const, natS, *])), by omega, by simp, by simp, fun _ => rfl, Lib.hid (by rw [digK_zero, natV_nil]), Lib.hid (fun j c hj _ => by omega)⟩ ?_
        rintro n tm hp nx ⟨k, v, q, sm, lg, hn, hkl, g6, g7, g8, g9, g10, g11, g12, hq, hsm, hlg, hqv, hV, hS⟩
        have hsm' := Lib.hid hsm
        have hlg' := Lib.hid hlg
        have hqv' := Lib.hid hqv
        clear hsm hlg hqv w1 w2 hwd h48' hx
        by_cases hlt : k < t.size
        · have f1 := byte_at t k hlt
          generalize hc : t[k]'hlt = c at f1
          by_cases hkW : k = W
          · by_cases h46 : c.toNat = 46
            · subst hkW
              have n1 := Lib.hid (show natV 0 (digK t.data.toList k (k + 1)) = v by rw [digK_point _ _ (by rw [size_toList]; omega)]; exact hV.out)
              have n2 := Lib.hid (scan_next hS.out f1 (okAt_pt h46))
              have h46' : (c.toNat : Int) = 46 := by omega
              clear f1 h46
              (repeat' (first
    | refine awp_seq ?_
    | refine awp_block ?_
    | (refine awp_ret ?_; simp only [then_ret, block_ret, end_ret])
    | ((first
        | refine vplain ?_
        | refine vdraws (by kernel_rfl) ?_
        | refine vbuildS (by simp only [tyb, elemOf_s]) (by simp only [tyb, elemOf_s, List.length_cons, List.length_nil, List.all_cons, List.all_nil, Value.oneCell', Bool.and_self, Nat.reduceAdd, Nat.reduceMul, Nat.reduceLeDiff, Nat.reduceLT, true_and, and_true, and_self, Nat.lt_add_one, Nat.zero_mul, Nat.zero_le, Nat.one_mul]) ?_
        | refine vcond ?_
        | refine awp_exit ?_
        | refine awp_skip ?_
        | refine And.intro (by first | omega | assumption | exact setOk_ge (by decide +kernel) | exact setOk_late (by decide +kernel) (by (simp (disch := omega) only [sx0, sx1, sx2, sx3, sx4, sx5, sx6, isBytes, ATy.isAgg, ATy.known, tyb, Nat.reduceAdd, Nat.reduceMul, Nat.reduceEqDiff, Nat.reduceLT, Nat.reduceLeDiff, ↓reduceIte, implies_true, decide_true, decide_false, ne_eq, Value.oneCell', Int.reduceToNat, ite_self, beq_self_eq_true, bne_self_eq_false, gt_iff_lt, Int.reduceEq, Int.reduceLT, Int.reduceLE, Int.reduceNe, List.forall_mem_cons, false_implies, forall_const, natS, *]; rfl)) (by refine wkR_row ?_; repeat' (first | exact trivial | refine wkL_c (by decide +kernel) ?_)) | exact Nat.le_of_ble_eq_true (by kernel_rfl)) ?_
        | refine nqif_ways (fun h => ?_) ?_
        | ((first | refine gif_ways (fun h => ?_) (fun h => ?_) | refine cif_ways (fun h => ?_) (fun h => ?_)) <;> (try simp only [decide_eq_true_eq, decide_eq_false_iff_not, Bool.not_eq_true', Bool.not_eq_false', Bool.not_true, Bool.not_false] at h) <;> (try (exfalso; omega)))) <;> (try (simp (disch := omega) only [sx0, sx1, sx2, sx3, sx4, sx5, sx6, isBytes, ATy.isAgg, ATy.known, tyb, Nat.reduceAdd, Nat.reduceMul, Nat.reduceEqDiff, Nat.reduceLT, Nat.reduceLeDiff, ↓reduceIte, implies_true, decide_true, decide_false, ne_eq, Value.oneCell', Int.reduceToNat, ite_self, beq_self_eq_true, bne_self_eq_false, gt_iff_lt, Int.reduceEq, Int.reduceLT, Int.reduceLE, Int.reduceNe, List.forall_mem_cons, false_implies, forall_const, *])))))
              exact kround_i (t.size - (k + 1)) (by omega) ⟨k + 1, v, q, sm, lg, by omega, by omega, by (first | rfl | (simp (disch := omega) only [sx0, sx1, sx2, sx3, sx4, sx5, sx6, isBytes, ATy.isAgg, ATy.known, tyb, Nat.reduceAdd, Nat.reduceMul, Nat.reduceEqDiff, Nat.reduceLT, Nat.reduceLeDiff, ↓reduceIte, implies_true, decide_true, decide_false, ne_eq, Value.oneCell', Int.reduceToNat, ite_self, beq_self_eq_true, bne_self_eq_false, gt_iff_lt, Int.reduceEq, Int.reduceLT, Int.reduceLE, Int.reduceNe, List.forall_mem_cons, false_implies, forall_const, natS, *])), by (first | rfl | (simp (disch := omega) only [sx0, sx1, sx2, sx3, sx4, sx5, sx6, isBytes, ATy.isAgg, ATy.known, tyb, Nat.reduceAdd, Nat.reduceMul, Nat.reduceEqDiff, Nat.reduceLT, Nat.reduceLeDiff, ↓reduceIte, implies_true, decide_true, decide_false, ne_eq, Value.oneCell', Int.reduceToNat, ite_self, beq_self_eq_true, bne_self_eq_false, gt_iff_lt, Int.reduceEq, Int.reduceLT, Int.reduceLE, Int.reduceNe, List.forall_mem_cons, false_implies, forall_const, natS, *])), by (first | rfl | (simp (disch := omega) only [sx0, sx1, sx2, sx3, sx4, sx5, sx6, isBytes, ATy.isAgg, ATy.known, tyb, Nat.reduceAdd, Nat.reduceMul, Nat.reduceEqDiff, Nat.reduceLT, Nat.reduceLeDiff, ↓reduceIte, implies_true, decide_true, decide_false, ne_eq, Value.oneCell', Int.reduceToNat, ite_self, beq_self_eq_true, bne_self_eq_false, gt_iff_lt, Int.reduceEq, Int.reduceLT, Int.reduceLE, Int.reduceNe, List.forall_mem_cons, false_implies, forall_const, natS, *])), by (first | rfl | (simp (disch := omega) only [sx0, sx1, sx2, sx3, sx4, sx5, sx6, isBytes, ATy.isAgg, ATy.known, tyb, Nat.reduceAdd, Nat.reduceMul, Nat.reduceEqDiff, Nat.reduceLT, Nat.reduceLeDiff, ↓reduceIte, implies_true, decide_true, decide_false, ne_eq, Value.oneCell', Int.reduceToNat, ite_self, beq_self_eq_true, bne_self_eq_false, gt_iff_lt, Int.reduceEq, Int.reduceLT, Int.reduceLE, Int.reduceNe, List.forall_mem_cons, false_implies, forall_const, natS, *])), by (first | rfl | (simp (disch := omega) only [sx0, sx1, sx2, sx3, sx4, sx5, sx6, isBytes, ATy.isAgg, ATy.known, tyb, Nat.reduceAdd, Nat.reduceMul, Nat.reduceEqDiff, Nat.reduceLT, Nat.reduceLeDiff, ↓reduceIte, implies_true, decide_true, decide_false, ne_eq, Value.oneCell', Int.reduceToNat, ite_self, beq_self_eq_true, bne_self_eq_false, gt_iff_lt, Int.reduceEq, Int.reduceLT, Int.reduceLE, Int.reduceNe, List.forall_mem_cons, false_implies, forall_const, natS, *])), by (first | rfl | (simp (disch := omega) only [sx0, sx1, sx2, sx3, sx4, sx5, sx6, isBytes, ATy.isAgg, ATy.known, tyb, Nat.reduceAdd, Nat.reduceMul, Nat.reduceEqDiff, Nat.reduceLT, Nat.reduceLeDiff, ↓reduceIte, implies_true, decide_true, decide_false, ne_eq, Value.oneCell', Int.reduceToNat, ite_self, beq_self_eq_true, bne_self_eq_false, gt_iff_lt, Int.reduceEq, Int.reduceLT, Int.reduceLE, Int.reduceNe, List.forall_mem_cons, false_implies, forall_const, natS, *])), by (first | rfl | (simp (disch := omega) only [sx0, sx1, sx2, sx3, sx4, sx5, sx6, isBytes, ATy.isAgg, ATy.known, tyb, Nat.reduceAdd, Nat.reduceMul, Nat.reduceEqDiff, Nat.reduceLT, Nat.reduceLeDiff, ↓reduceIte, implies_true, decide_true, decide_false, ne_eq, Value.oneCell', Int.reduceToNat, ite_self, beq_self_eq_true, bne_self_eq_false, gt_iff_lt, Int.reduceEq, Int.reduceLT, Int.reduceLE, Int.reduceNe, List.forall_mem_cons, false_implies, forall_const, natS, *])), hq, hsm'.out, hlg'.out, hqv'.out, n1, n2⟩
            · subst hkW
              obtain ⟨r1, r2⟩ := nope.out k c f1 (okAt_no1 h46)
              have h46' : ¬ (c.toNat : Int) = 46 := by omega
              clear f1 h46
              (repeat' (first
    | refine awp_seq ?_
    | refine awp_block ?_
    | (refine awp_ret ?_; simp only [then_ret, block_ret, end_ret])
    | ((first
        | refine vplain ?_
        | refine vdraws (by kernel_rfl) ?_
        | refine vbuildS (by simp only [tyb, elemOf_s]) (by simp only [tyb, elemOf_s, List.length_cons, List.length_nil, List.all_cons, List.all_nil, Value.oneCell', Bool.and_self, Nat.reduceAdd, Nat.reduceMul, Nat.reduceLeDiff, Nat.reduceLT, true_and, and_true, and_self, Nat.lt_add_one, Nat.zero_mul, Nat.zero_le, Nat.one_mul]) ?_
        | refine vcond ?_
        | refine awp_exit ?_
        | refine awp_skip ?_
        | refine And.intro (by first | omega | assumption | exact setOk_ge (by decide +kernel) | exact setOk_late (by decide +kernel) (by (simp (disch := omega) only [sx0, sx1, sx2, sx3, sx4, sx5, sx6, isBytes, ATy.isAgg, ATy.known, tyb, Nat.reduceAdd, Nat.reduceMul, Nat.reduceEqDiff, Nat.reduceLT, Nat.reduceLeDiff, ↓reduceIte, implies_true, decide_true, decide_false, ne_eq, Value.oneCell', Int.reduceToNat, ite_self, beq_self_eq_true, bne_self_eq_false, gt_iff_lt, Int.reduceEq, Int.reduceLT, Int.reduceLE, Int.reduceNe, List.forall_mem_cons, false_implies, forall_const, natS, *]; rfl)) (by refine wkR_row ?_; repeat' (first | exact trivial | refine wkL_c (by decide +kernel) ?_)) | exact Nat.le_of_ble_eq_true (by kernel_rfl)) ?_
        | refine nqif_ways (fun h => ?_) ?_
        | ((first | refine gif_ways (fun h => ?_) (fun h => ?_) | refine cif_ways (fun h => ?_) (fun h => ?_)) <;> (try simp only [decide_eq_true_eq, decide_eq_false_iff_not, Bool.not_eq_true', Bool.not_eq_false', Bool.not_true, Bool.not_false] at h) <;> (try (exfalso; omega)))) <;> (try (simp (disch := omega) only [sx0, sx1, sx2, sx3, sx4, sx5, sx6, isBytes, ATy.isAgg, ATy.known, tyb, Nat.reduceAdd, Nat.reduceMul, Nat.reduceEqDiff, Nat.reduceLT, Nat.reduceLeDiff, ↓reduceIte, implies_true, decide_true, decide_false, ne_eq, Value.oneCell', Int.reduceToNat, ite_self, beq_self_eq_true, bne_self_eq_false, gt_iff_lt, Int.reduceEq, Int.reduceLT, Int.reduceLE, Int.reduceNe, List.forall_mem_cons, false_implies, forall_const, *])))))
              all_goals simp only [sxc, sx6, z0, p0, Nat.reduceEqDiff, ↓reduceIte, AV.ex.injEq, Value.bool.injEq, Value.int.injEq, Value.string.injEq, List.all_append, List.map_append, Tryd.f18, *]
          · have hkW' : ¬ (k : Int) = W := by omega
            by_cases hD : isD c = true
            · obtain ⟨dg, dg1, -, -, d4⟩ := isD_inv hD
              have n1 := Lib.hid (digK_val f1 hkW hV.out d4)
              have n2 := Lib.hid (scan_next hS.out f1 (okAt_dig hkW hD))
              have d4' : (c.toNat : Int) = 48 + dg := by omega
              clear f1 d4 hD
              cases lg with
              | true =>
                have hbig := hlg'.out.1 rfl
                cases sm with
                | true =>
                  (repeat' (first
    | refine awp_seq ?_
    | refine awp_block ?_
    | (refine awp_ret ?_; simp only [then_ret, block_ret, end_ret])
    | ((first
        | refine vplain ?_
        | refine vdraws (by kernel_rfl) ?_
        | refine vbuildS (by simp only [tyb, elemOf_s]) (by simp only [tyb, elemOf_s, List.length_cons, List.length_nil, List.all_cons, List.all_nil, Value.oneCell', Bool.and_self, Nat.reduceAdd, Nat.reduceMul, Nat.reduceLeDiff, Nat.reduceLT, true_and, and_true, and_self, Nat.lt_add_one, Nat.zero_mul, Nat.zero_le, Nat.one_mul]) ?_
        | refine vcond ?_
        | refine awp_exit ?_
        | refine awp_skip ?_
        | refine And.intro (by first | omega | assumption | exact setOk_ge (by decide +kernel) | exact setOk_late (by decide +kernel) (by (simp (disch := omega) only [sx0, sx1, sx2, sx3, sx4, sx5, sx6, isBytes, ATy.isAgg, ATy.known, tyb, Nat.reduceAdd, Nat.reduceMul, Nat.reduceEqDiff, Nat.reduceLT, Nat.reduceLeDiff, ↓reduceIte, implies_true, decide_true, decide_false, ne_eq, Value.oneCell', Int.reduceToNat, ite_self, beq_self_eq_true, bne_self_eq_false, gt_iff_lt, Int.reduceEq, Int.reduceLT, Int.reduceLE, Int.reduceNe, List.forall_mem_cons, false_implies, forall_const, natS, *]; rfl)) (by refine wkR_row ?_; repeat' (first | exact trivial | refine wkL_c (by decide +kernel) ?_)) | exact Nat.le_of_ble_eq_true (by kernel_rfl)) ?_
        | refine nqif_ways (fun h => ?_) ?_
        | ((first | refine gif_ways (fun h => ?_) (fun h => ?_) | refine cif_ways (fun h => ?_) (fun h => ?_)) <;> (try simp only [decide_eq_true_eq, decide_eq_false_iff_not, Bool.not_eq_true', Bool.not_eq_false', Bool.not_true, Bool.not_false] at h) <;> (try (exfalso; omega)))) <;> (try (simp (disch := omega) only [sx0, sx1, sx2, sx3, sx4, sx5, sx6, isBytes, ATy.isAgg, ATy.known, tyb, Nat.reduceAdd, Nat.reduceMul, Nat.reduceEqDiff, Nat.reduceLT, Nat.reduceLeDiff, ↓reduceIte, implies_true, decide_true, decide_false, ne_eq, Value.oneCell', Int.reduceToNat, ite_self, beq_self_eq_true, bne_self_eq_false, gt_iff_lt, Int.reduceEq, Int.reduceLT, Int.reduceLE, Int.reduceNe, List.forall_mem_cons, false_implies, forall_const, *])))))
                  all_goals exact kround_i (t.size - (k + 1)) (by omega) ⟨k + 1, v * 10 + dg, q, true, true, by omega, by omega, by (first | rfl | (simp (disch := omega) only [sx0, sx1, sx2, sx3, sx4, sx5, sx6, isBytes, ATy.isAgg, ATy.known, tyb, Nat.reduceAdd, Nat.reduceMul, Nat.reduceEqDiff, Nat.reduceLT, Nat.reduceLeDiff, ↓reduceIte, implies_true, decide_true, decide_false, ne_eq, Value.oneCell', Int.reduceToNat, ite_self, beq_self_eq_true, bne_self_eq_false, gt_iff_lt, Int.reduceEq, Int.reduceLT, Int.reduceLE, Int.reduceNe, List.forall_mem_cons, false_implies, forall_const, natS, *])), by (first | rfl | (simp (disch := omega) only [sx0, sx1, sx2, sx3, sx4, sx5, sx6, isBytes, ATy.isAgg, ATy.known, tyb, Nat.reduceAdd, Nat.reduceMul, Nat.reduceEqDiff, Nat.reduceLT, Nat.reduceLeDiff, ↓reduceIte, implies_true, decide_true, decide_false, ne_eq, Value.oneCell', Int.reduceToNat, ite_self, beq_self_eq_true, bne_self_eq_false, gt_iff_lt, Int.reduceEq, Int.reduceLT, Int.reduceLE, Int.reduceNe, List.forall_mem_cons, false_implies, forall_const, natS, *])), by (first | rfl | (simp (disch := omega) only [sx0, sx1, sx2, sx3, sx4, sx5, sx6, isBytes, ATy.isAgg, ATy.known, tyb, Nat.reduceAdd, Nat.reduceMul, Nat.reduceEqDiff, Nat.reduceLT, Nat.reduceLeDiff, ↓reduceIte, implies_true, decide_true, decide_false, ne_eq, Value.oneCell', Int.reduceToNat, ite_self, beq_self_eq_true, bne_self_eq_false, gt_iff_lt, Int.reduceEq, Int.reduceLT, Int.reduceLE, Int.reduceNe, List.forall_mem_cons, false_implies, forall_const, natS, *])), by (first | rfl | (simp (disch := omega) only [sx0, sx1, sx2, sx3, sx4, sx5, sx6, isBytes, ATy.isAgg, ATy.known, tyb, Nat.reduceAdd, Nat.reduceMul, Nat.reduceEqDiff, Nat.reduceLT, Nat.reduceLeDiff, ↓reduceIte, implies_true, decide_true, decide_false, ne_eq, Value.oneCell', Int.reduceToNat, ite_self, beq_self_eq_true, bne_self_eq_false, gt_iff_lt, Int.reduceEq, Int.reduceLT, Int.reduceLE, Int.reduceNe, List.forall_mem_cons, false_implies, forall_const, natS, *])), by (first | rfl | (simp (disch := omega) only [sx0, sx1, sx2, sx3, sx4, sx5, sx6, isBytes, ATy.isAgg, ATy.known, tyb, Nat.reduceAdd, Nat.reduceMul, Nat.reduceEqDiff, Nat.reduceLT, Nat.reduceLeDiff, ↓reduceIte, implies_true, decide_true, decide_false, ne_eq, Value.oneCell', Int.reduceToNat, ite_self, beq_self_eq_true, bne_self_eq_false, gt_iff_lt, Int.reduceEq, Int.reduceLT, Int.reduceLE, Int.reduceNe, List.forall_mem_cons, false_implies, forall_const, natS, *])), by (first | rfl | (simp (disch := omega) only [sx0, sx1, sx2, sx3, sx4, sx5, sx6, isBytes, ATy.isAgg, ATy.known, tyb, Nat.reduceAdd, Nat.reduceMul, Nat.reduceEqDiff, Nat.reduceLT, Nat.reduceLeDiff, ↓reduceIte, implies_true, decide_true, decide_false, ne_eq, Value.oneCell', Int.reduceToNat, ite_self, beq_self_eq_true, bne_self_eq_false, gt_iff_lt, Int.reduceEq, Int.reduceLT, Int.reduceLE, Int.reduceNe, List.forall_mem_cons, false_implies, forall_const, natS, *])), by (first | rfl | (simp (disch := omega) only [sx0, sx1, sx2, sx3, sx4, sx5, sx6, isBytes, ATy.isAgg, ATy.known, tyb, Nat.reduceAdd, Nat.reduceMul, Nat.reduceEqDiff, Nat.reduceLT, Nat.reduceLeDiff, ↓reduceIte, implies_true, decide_true, decide_false, ne_eq, Value.oneCell', Int.reduceToNat, ite_self, beq_self_eq_true, bne_self_eq_false, gt_iff_lt, Int.reduceEq, Int.reduceLT, Int.reduceLE, Int.reduceNe, List.forall_mem_cons, false_implies, forall_const, natS, *])), hq, by simp; omega, by simp; omega, by simp, n1, n2⟩
                | false => exact absurd (hsm'.out.2 (by omega)) (by simp)
              | false =>
                have hsml : v ≤ 1000000000000 := by
                  apply Classical.byContradiction
                  intro hh
                  exact absurd (hlg'.out.2 (by omega)) (by simp)
                have hqe := hqv'.out rfl
                subst hqe
                by_cases hb : q * 10 + dg ≤ 1000000000000
                · cases sm with
                  | true =>
                    have hv0 := hsm'.out.1 rfl
                    have hL : decide (1000000000000 < 10 * (q : Int) + (48 + dg - 48)) = false := decide_eq_false (by omega)
                    (repeat' (first
    | refine awp_seq ?_
    | refine awp_block ?_
    | (refine awp_ret ?_; simp only [then_ret, block_ret, end_ret])
    | ((first
        | refine vplain ?_
        | refine vdraws (by kernel_rfl) ?_
        | refine vbuildS (by simp only [tyb, elemOf_s]) (by simp only [tyb, elemOf_s, List.length_cons, List.length_nil, List.all_cons, List.all_nil, Value.oneCell', Bool.and_self, Nat.reduceAdd, Nat.reduceMul, Nat.reduceLeDiff, Nat.reduceLT, true_and, and_true, and_self, Nat.lt_add_one, Nat.zero_mul, Nat.zero_le, Nat.one_mul]) ?_
        | refine vcond ?_
        | refine awp_exit ?_
        | refine awp_skip ?_
        | refine And.intro (by first | omega | assumption | exact setOk_ge (by decide +kernel) | exact setOk_late (by decide +kernel) (by (simp (disch := omega) only [sx0, sx1, sx2, sx3, sx4, sx5, sx6, isBytes, ATy.isAgg, ATy.known, tyb, Nat.reduceAdd, Nat.reduceMul, Nat.reduceEqDiff, Nat.reduceLT, Nat.reduceLeDiff, ↓reduceIte, implies_true, decide_true, decide_false, ne_eq, Value.oneCell', Int.reduceToNat, ite_self, beq_self_eq_true, bne_self_eq_false, gt_iff_lt, Int.reduceEq, Int.reduceLT, Int.reduceLE, Int.reduceNe, List.forall_mem_cons, false_implies, forall_const, natS, *]; rfl)) (by refine wkR_row ?_; repeat' (first | exact trivial | refine wkL_c (by decide +kernel) ?_)) | exact Nat.le_of_ble_eq_true (by kernel_rfl)) ?_
        | refine nqif_ways (fun h => ?_) ?_
        | ((first | refine gif_ways (fun h => ?_) (fun h => ?_) | refine cif_ways (fun h => ?_) (fun h => ?_)) <;> (try simp only [decide_eq_true_eq, decide_eq_false_iff_not, Bool.not_eq_true', Bool.not_eq_false', Bool.not_true, Bool.not_false] at h) <;> (try (exfalso; omega)))) <;> (try (simp (disch := omega) only [sx0, sx1, sx2, sx3, sx4, sx5, sx6, isBytes, ATy.isAgg, ATy.known, tyb, Nat.reduceAdd, Nat.reduceMul, Nat.reduceEqDiff, Nat.reduceLT, Nat.reduceLeDiff, ↓reduceIte, implies_true, decide_true, decide_false, ne_eq, Value.oneCell', Int.reduceToNat, ite_self, beq_self_eq_true, bne_self_eq_false, gt_iff_lt, Int.reduceEq, Int.reduceLT, Int.reduceLE, Int.reduceNe, List.forall_mem_cons, false_implies, forall_const, *])))))
                    all_goals exact kround_i (t.size - (k + 1)) (by omega) ⟨k + 1, q * 10 + dg, q * 10 + dg, true, false, by omega, by omega, by (first | rfl | (simp (disch := omega) only [sx0, sx1, sx2, sx3, sx4, sx5, sx6, isBytes, ATy.isAgg, ATy.known, tyb, Nat.reduceAdd, Nat.reduceMul, Nat.reduceEqDiff, Nat.reduceLT, Nat.reduceLeDiff, ↓reduceIte, implies_true, decide_true, decide_false, ne_eq, Value.oneCell', Int.reduceToNat, ite_self, beq_self_eq_true, bne_self_eq_false, gt_iff_lt, Int.reduceEq, Int.reduceLT, Int.reduceLE, Int.reduceNe, List.forall_mem_cons, false_implies, forall_const, natS, *])), by (first | rfl | (simp (disch := omega) only [sx0, sx1, sx2, sx3, sx4, sx5, sx6, isBytes, ATy.isAgg, ATy.known, tyb, Nat.reduceAdd, Nat.reduceMul, Nat.reduceEqDiff, Nat.reduceLT, Nat.reduceLeDiff, ↓reduceIte, implies_true, decide_true, decide_false, ne_eq, Value.oneCell', Int.reduceToNat, ite_self, beq_self_eq_true, bne_self_eq_false, gt_iff_lt, Int.reduceEq, Int.reduceLT, Int.reduceLE, Int.reduceNe, List.forall_mem_cons, false_implies, forall_const, natS, *])), by (first | rfl | (simp (disch := omega) only [sx0, sx1, sx2, sx3, sx4, sx5, sx6, isBytes, ATy.isAgg, ATy.known, tyb, Nat.reduceAdd, Nat.reduceMul, Nat.reduceEqDiff, Nat.reduceLT, Nat.reduceLeDiff, ↓reduceIte, implies_true, decide_true, decide_false, ne_eq, Value.oneCell', Int.reduceToNat, ite_self, beq_self_eq_true, bne_self_eq_false, gt_iff_lt, Int.reduceEq, Int.reduceLT, Int.reduceLE, Int.reduceNe, List.forall_mem_cons, false_implies, forall_const, natS, *])), by (simp (disch := omega) only [sx0, sx1, sx2, sx3, sx4, sx5, sx6, isBytes, ATy.isAgg, ATy.known, tyb, Nat.reduceAdd, Nat.reduceMul, Nat.reduceEqDiff, Nat.reduceLT, Nat.reduceLeDiff, ↓reduceIte, implies_true, decide_true, decide_false, ne_eq, Value.oneCell', Int.reduceToNat, ite_self, beq_self_eq_true, bne_self_eq_false, gt_iff_lt, Int.reduceEq, Int.reduceLT, Int.reduceLE, Int.reduceNe, List.forall_mem_cons, false_implies, forall_const, natS, *]; congr 2; omega), by (first | rfl | (simp (disch := omega) only [sx0, sx1, sx2, sx3, sx4, sx5, sx6, isBytes, ATy.isAgg, ATy.known, tyb, Nat.reduceAdd, Nat.reduceMul, Nat.reduceEqDiff, Nat.reduceLT, Nat.reduceLeDiff, ↓reduceIte, implies_true, decide_true, decide_false, ne_eq, Value.oneCell', Int.reduceToNat, ite_self, beq_self_eq_true, bne_self_eq_false, gt_iff_lt, Int.reduceEq, Int.reduceLT, Int.reduceLE, Int.reduceNe, List.forall_mem_cons, false_implies, forall_const, natS, *])), by (first | rfl | (simp (disch := omega) only [sx0, sx1, sx2, sx3, sx4, sx5, sx6, isBytes, ATy.isAgg, ATy.known, tyb, Nat.reduceAdd, Nat.reduceMul, Nat.reduceEqDiff, Nat.reduceLT, Nat.reduceLeDiff, ↓reduceIte, implies_true, decide_true, decide_false, ne_eq, Value.oneCell', Int.reduceToNat, ite_self, beq_self_eq_true, bne_self_eq_false, gt_iff_lt, Int.reduceEq, Int.reduceLT, Int.reduceLE, Int.reduceNe, List.forall_mem_cons, false_implies, forall_const, natS, *])), by (first | rfl | (simp (disch := omega) only [sx0, sx1, sx2, sx3, sx4, sx5, sx6, isBytes, ATy.isAgg, ATy.known, tyb, Nat.reduceAdd, Nat.reduceMul, Nat.reduceEqDiff, Nat.reduceLT, Nat.reduceLeDiff, ↓reduceIte, implies_true, decide_true, decide_false, ne_eq, Value.oneCell', Int.reduceToNat, ite_self, beq_self_eq_true, bne_self_eq_false, gt_iff_lt, Int.reduceEq, Int.reduceLT, Int.reduceLE, Int.reduceNe, List.forall_mem_cons, false_implies, forall_const, natS, *])), by omega, by simp; omega, by simp; omega, fun _ => rfl, n1, n2⟩
                  | false =>
                    have hv0 : q ≤ 0 := by
                      apply Classical.byContradiction
                      intro hh
                      exact absurd (hsm'.out.2 (by omega)) (by simp)
                    have hL : decide (1000000000000 < 10 * (q : Int) + (48 + dg - 48)) = false := decide_eq_false (by omega)
                    by_cases hz : dg ≤ 0
                    · have hZ : decide ((48 : Int) + dg = 48) = true := decide_eq_true (by omega)
                      (repeat' (first
    | refine awp_seq ?_
    | refine awp_block ?_
    | (refine awp_ret ?_; simp only [then_ret, block_ret, end_ret])
    | ((first
        | refine vplain ?_
        | refine vdraws (by kernel_rfl) ?_
        | refine vbuildS (by simp only [tyb, elemOf_s]) (by simp only [tyb, elemOf_s, List.length_cons, List.length_nil, List.all_cons, List.all_nil, Value.oneCell', Bool.and_self, Nat.reduceAdd, Nat.reduceMul, Nat.reduceLeDiff, Nat.reduceLT, true_and, and_true, and_self, Nat.lt_add_one, Nat.zero_mul, Nat.zero_le, Nat.one_mul]) ?_
        | refine vcond ?_
        | refine awp_exit ?_
        | refine awp_skip ?_
        | refine And.intro (by first | omega | assumption | exact setOk_ge (by decide +kernel) | exact setOk_late (by decide +kernel) (by (simp (disch := omega) only [sx0, sx1, sx2, sx3, sx4, sx5, sx6, isBytes, ATy.isAgg, ATy.known, tyb, Nat.reduceAdd, Nat.reduceMul, Nat.reduceEqDiff, Nat.reduceLT, Nat.reduceLeDiff, ↓reduceIte, implies_true, decide_true, decide_false, ne_eq, Value.oneCell', Int.reduceToNat, ite_self, beq_self_eq_true, bne_self_eq_false, gt_iff_lt, Int.reduceEq, Int.reduceLT, Int.reduceLE, Int.reduceNe, List.forall_mem_cons, false_implies, forall_const, natS, *]; rfl)) (by refine wkR_row ?_; repeat' (first | exact trivial | refine wkL_c (by decide +kernel) ?_)) | exact Nat.le_of_ble_eq_true (by kernel_rfl)) ?_
        | refine nqif_ways (fun h => ?_) ?_
        | ((first | refine gif_ways (fun h => ?_) (fun h => ?_) | refine cif_ways (fun h => ?_) (fun h => ?_)) <;> (try simp only [decide_eq_true_eq, decide_eq_false_iff_not, Bool.not_eq_true', Bool.not_eq_false', Bool.not_true, Bool.not_false] at h) <;> (try (exfalso; omega)))) <;> (try (simp (disch := omega) only [sx0, sx1, sx2, sx3, sx4, sx5, sx6, isBytes, ATy.isAgg, ATy.known, tyb, Nat.reduceAdd, Nat.reduceMul, Nat.reduceEqDiff, Nat.reduceLT, Nat.reduceLeDiff, ↓reduceIte, implies_true, decide_true, decide_false, ne_eq, Value.oneCell', Int.reduceToNat, ite_self, beq_self_eq_true, bne_self_eq_false, gt_iff_lt, Int.reduceEq, Int.reduceLT, Int.reduceLE, Int.reduceNe, List.forall_mem_cons, false_implies, forall_const, *])))))
                      all_goals exact kround_i (t.size - (k + 1)) (by omega) ⟨k + 1, q * 10 + dg, q * 10 + dg, false, false, by omega, by omega, by (first | rfl | (simp (disch := omega) only [sx0, sx1, sx2, sx3, sx4, sx5, sx6, isBytes, ATy.isAgg, ATy.known, tyb, Nat.reduceAdd, Nat.reduceMul, Nat.reduceEqDiff, Nat.reduceLT, Nat.reduceLeDiff, ↓reduceIte, implies_true, decide_true, decide_false, ne_eq, Value.oneCell', Int.reduceToNat, ite_self, beq_self_eq_true, bne_self_eq_false, gt_iff_lt, Int.reduceEq, Int.reduceLT, Int.reduceLE, Int.reduceNe, List.forall_mem_cons, false_implies, forall_const, natS, *])), by (first | rfl | (simp (disch := omega) only [sx0, sx1, sx2, sx3, sx4, sx5, sx6, isBytes, ATy.isAgg, ATy.known, tyb, Nat.reduceAdd, Nat.reduceMul, Nat.reduceEqDiff, Nat.reduceLT, Nat.reduceLeDiff, ↓reduceIte, implies_true, decide_true, decide_false, ne_eq, Value.oneCell', Int.reduceToNat, ite_self, beq_self_eq_true, bne_self_eq_false, gt_iff_lt, Int.reduceEq, Int.reduceLT, Int.reduceLE, Int.reduceNe, List.forall_mem_cons, false_implies, forall_const, natS, *])), by (first | rfl | (simp (disch := omega) only [sx0, sx1, sx2, sx3, sx4, sx5, sx6, isBytes, ATy.isAgg, ATy.known, tyb, Nat.reduceAdd, Nat.reduceMul, Nat.reduceEqDiff, Nat.reduceLT, Nat.reduceLeDiff, ↓reduceIte, implies_true, decide_true, decide_false, ne_eq, Value.oneCell', Int.reduceToNat, ite_self, beq_self_eq_true, bne_self_eq_false, gt_iff_lt, Int.reduceEq, Int.reduceLT, Int.reduceLE, Int.reduceNe, List.forall_mem_cons, false_implies, forall_const, natS, *])), by (simp (disch := omega) only [sx0, sx1, sx2, sx3, sx4, sx5, sx6, isBytes, ATy.isAgg, ATy.known, tyb, Nat.reduceAdd, Nat.reduceMul, Nat.reduceEqDiff, Nat.reduceLT, Nat.reduceLeDiff, ↓reduceIte, implies_true, decide_true, decide_false, ne_eq, Value.oneCell', Int.reduceToNat, ite_self, beq_self_eq_true, bne_self_eq_false, gt_iff_lt, Int.reduceEq, Int.reduceLT, Int.reduceLE, Int.reduceNe, List.forall_mem_cons, false_implies, forall_const, natS, *]; congr 2; omega), by (first | rfl | (simp (disch := omega) only [sx0, sx1, sx2, sx3, sx4, sx5, sx6, isBytes, ATy.isAgg, ATy.known, tyb, Nat.reduceAdd, Nat.reduceMul, Nat.reduceEqDiff, Nat.reduceLT, Nat.reduceLeDiff, ↓reduceIte, implies_true, decide_true, decide_false, ne_eq, Value.oneCell', Int.reduceToNat, ite_self, beq_self_eq_true, bne_self_eq_false, gt_iff_lt, Int.reduceEq, Int.reduceLT, Int.reduceLE, Int.reduceNe, List.forall_mem_cons, false_implies, forall_const, natS, *])), by (first | rfl | (simp (disch := omega) only [sx0, sx1, sx2, sx3, sx4, sx5, sx6, isBytes, ATy.isAgg, ATy.known, tyb, Nat.reduceAdd, Nat.reduceMul, Nat.reduceEqDiff, Nat.reduceLT, Nat.reduceLeDiff, ↓reduceIte, implies_true, decide_true, decide_false, ne_eq, Value.oneCell', Int.reduceToNat, ite_self, beq_self_eq_true, bne_self_eq_false, gt_iff_lt, Int.reduceEq, Int.reduceLT, Int.reduceLE, Int.reduceNe, List.forall_mem_cons, false_implies, forall_const, natS, *])), by (first | rfl | (simp (disch := omega) only [sx0, sx1, sx2, sx3, sx4, sx5, sx6, isBytes, ATy.isAgg, ATy.known, tyb, Nat.reduceAdd, Nat.reduceMul, Nat.reduceEqDiff, Nat.reduceLT, Nat.reduceLeDiff, ↓reduceIte, implies_true, decide_true, decide_false, ne_eq, Value.oneCell', Int.reduceToNat, ite_self, beq_self_eq_true, bne_self_eq_false, gt_iff_lt, Int.reduceEq, Int.reduceLT, Int.reduceLE, Int.reduceNe, List.forall_mem_cons, false_implies, forall_const, natS, *])), by omega, by simp; omega, by simp; omega, fun _ => rfl, n1, n2⟩
                    · have hZ : decide ((48 : Int) + dg = 48) = false := decide_eq_false (by omega)
                      (repeat' (first
    | refine awp_seq ?_
    | refine awp_block ?_
    | (refine awp_ret ?_; simp only [then_ret, block_ret, end_ret])
    | ((first
        | refine vplain ?_
        | refine vdraws (by kernel_rfl) ?_
        | refine vbuildS (by simp only [tyb, elemOf_s]) (by simp only [tyb, elemOf_s, List.length_cons, List.length_nil, List.all_cons, List.all_nil, Value.oneCell', Bool.and_self, Nat.reduceAdd, Nat.reduceMul, Nat.reduceLeDiff, Nat.reduceLT, true_and, and_true, and_self, Nat.lt_add_one, Nat.zero_mul, Nat.zero_le, Nat.one_mul]) ?_
        | refine vcond ?_
        | refine awp_exit ?_
        | refine awp_skip ?_
        | refine And.intro (by first | omega | assumption | exact setOk_ge (by decide +kernel) | exact setOk_late (by decide +kernel) (by (simp (disch := omega) only [sx0, sx1, sx2, sx3, sx4, sx5, sx6, isBytes, ATy.isAgg, ATy.known, tyb, Nat.reduceAdd, Nat.reduceMul, Nat.reduceEqDiff, Nat.reduceLT, Nat.reduceLeDiff, ↓reduceIte, implies_true, decide_true, decide_false, ne_eq, Value.oneCell', Int.reduceToNat, ite_self, beq_self_eq_true, bne_self_eq_false, gt_iff_lt, Int.reduceEq, Int.reduceLT, Int.reduceLE, Int.reduceNe, List.forall_mem_cons, false_implies, forall_const, natS, *]; rfl)) (by refine wkR_row ?_; repeat' (first | exact trivial | refine wkL_c (by decide +kernel) ?_)) | exact Nat.le_of_ble_eq_true (by kernel_rfl)) ?_
        | refine nqif_ways (fun h => ?_) ?_
        | ((first | refine gif_ways (fun h => ?_) (fun h => ?_) | refine cif_ways (fun h => ?_) (fun h => ?_)) <;> (try simp only [decide_eq_true_eq, decide_eq_false_iff_not, Bool.not_eq_true', Bool.not_eq_false', Bool.not_true, Bool.not_false] at h) <;> (try (exfalso; omega)))) <;> (try (simp (disch := omega) only [sx0, sx1, sx2, sx3, sx4, sx5, sx6, isBytes, ATy.isAgg, ATy.known, tyb, Nat.reduceAdd, Nat.reduceMul, Nat.reduceEqDiff, Nat.reduceLT, Nat.reduceLeDiff, ↓reduceIte, implies_true, decide_true, decide_false, ne_eq, Value.oneCell', Int.reduceToNat, ite_self, beq_self_eq_true, bne_self_eq_false, gt_iff_lt, Int.reduceEq, Int.reduceLT, Int.reduceLE, Int.reduceNe, List.forall_mem_cons, false_implies, forall_const, *])))))
                      all_goals exact kround_i (t.size - (k + 1)) (by omega) ⟨k + 1, q * 10 + dg, q * 10 + dg, true, false, by omega, by omega, by (first | rfl | (simp (disch := omega) only [sx0, sx1, sx2, sx3, sx4, sx5, sx6, isBytes, ATy.isAgg, ATy.known, tyb, Nat.reduceAdd, Nat.reduceMul, Nat.reduceEqDiff, Nat.reduceLT, Nat.reduceLeDiff, ↓reduceIte, implies_true, decide_true, decide_false, ne_eq, Value.oneCell', Int.reduceToNat, ite_self, beq_self_eq_true, bne_self_eq_false, gt_iff_lt, Int.reduceEq, Int.reduceLT, Int.reduceLE, Int.reduceNe, List.forall_mem_cons, false_implies, forall_const, natS, *])), by (first | rfl | (simp (disch := omega) only [sx0, sx1, sx2, sx3, sx4, sx5, sx6, isBytes, ATy.isAgg, ATy.known, tyb, Nat.reduceAdd, Nat.reduceMul, Nat.reduceEqDiff, Nat.reduceLT, Nat.reduceLeDiff, ↓reduceIte, implies_true, decide_true, decide_false, ne_eq, Value.oneCell', Int.reduceToNat, ite_self, beq_self_eq_true, bne_self_eq_false, gt_iff_lt, Int.reduceEq, Int.reduceLT, Int.reduceLE, Int.reduceNe, List.forall_mem_cons, false_implies, forall_const, natS, *])), by (first | rfl | (simp (disch := omega) only [sx0, sx1, sx2, sx3, sx4, sx5, sx6, isBytes, ATy.isAgg, ATy.known, tyb, Nat.reduceAdd, Nat.reduceMul, Nat.reduceEqDiff, Nat.reduceLT, Nat.reduceLeDiff, ↓reduceIte, implies_true, decide_true, decide_false, ne_eq, Value.oneCell', Int.reduceToNat, ite_self, beq_self_eq_true, bne_self_eq_false, gt_iff_lt, Int.reduceEq, Int.reduceLT, Int.reduceLE, Int.reduceNe, List.forall_mem_cons, false_implies, forall_const, natS, *])), by (simp (disch := omega) only [sx0, sx1, sx2, sx3, sx4, sx5, sx6, isBytes, ATy.isAgg, ATy.known, tyb, Nat.reduceAdd, Nat.reduceMul, Nat.reduceEqDiff, Nat.reduceLT, Nat.reduceLeDiff, ↓reduceIte, implies_true, decide_true, decide_false, ne_eq, Value.oneCell', Int.reduceToNat, ite_self, beq_self_eq_true, bne_self_eq_false, gt_iff_lt, Int.reduceEq, Int.reduceLT, Int.reduceLE, Int.reduceNe, List.forall_mem_cons, false_implies, forall_const, natS, *]; congr 2; omega), by (first | rfl | (simp (disch := omega) only [sx0, sx1, sx2, sx3, sx4, sx5, sx6, isBytes, ATy.isAgg, ATy.known, tyb, Nat.reduceAdd, Nat.reduceMul, Nat.reduceEqDiff, Nat.reduceLT, Nat.reduceLeDiff, ↓reduceIte, implies_true, decide_true, decide_false, ne_eq, Value.oneCell', Int.reduceToNat, ite_self, beq_self_eq_true, bne_self_eq_false, gt_iff_lt, Int.reduceEq, Int.reduceLT, Int.reduceLE, Int.reduceNe, List.forall_mem_cons, false_implies, forall_const, natS, *])), by (first | rfl | (simp (disch := omega) only [sx0, sx1, sx2, sx3, sx4, sx5, sx6, isBytes, ATy.isAgg, ATy.known, tyb, Nat.reduceAdd, Nat.reduceMul, Nat.reduceEqDiff, Nat.reduceLT, Nat.reduceLeDiff, ↓reduceIte, implies_true, decide_true, decide_false, ne_eq, Value.oneCell', Int.reduceToNat, ite_self, beq_self_eq_true, bne_self_eq_false, gt_iff_lt, Int.reduceEq, Int.reduceLT, Int.reduceLE, Int.reduceNe, List.forall_mem_cons, false_implies, forall_const, natS, *])), by (first | rfl | (simp (disch := omega) only [sx0, sx1, sx2, sx3, sx4, sx5, sx6, isBytes, ATy.isAgg, ATy.known, tyb, Nat.reduceAdd, Nat.reduceMul, Nat.reduceEqDiff, Nat.reduceLT, Nat.reduceLeDiff, ↓reduceIte, implies_true, decide_true, decide_false, ne_eq, Value.oneCell', Int.reduceToNat, ite_self, beq_self_eq_true, bne_self_eq_false, gt_iff_lt, Int.reduceEq, Int.reduceLT, Int.reduceLE, Int.reduceNe, List.forall_mem_cons, false_implies, forall_const, natS, *])), by omega, by simp; omega, by simp; omega, fun _ => rfl, n1, n2⟩
                · have hv0 : q ≠ 0 := by omega
                  have hsm2 : sm = true := hsm'.out.2 hv0
                  subst hsm2
                  have hL : decide (1000000000000 < 10 * (q : Int) + (48 + dg - 48)) = true := decide_eq_true (by omega)
                  (repeat' (first
    | refine awp_seq ?_
    | refine awp_block ?_
    | (refine awp_ret ?_; simp only [then_ret, block_ret, end_ret])
    | ((first
        | refine vplain ?_
        | refine vdraws (by kernel_rfl) ?_
        | refine vbuildS (by simp only [tyb, elemOf_s]) (by simp only [tyb, elemOf_s, List.length_cons, List.length_nil, List.all_cons, List.all_nil, Value.oneCell', Bool.and_self, Nat.reduceAdd, Nat.reduceMul, Nat.reduceLeDiff, Nat.reduceLT, true_and, and_true, and_self, Nat.lt_add_one, Nat.zero_mul, Nat.zero_le, Nat.one_mul]) ?_
        | refine vcond ?_
        | refine awp_exit ?_
        | refine awp_skip ?_
        | refine And.intro (by first | omega | assumption | exact setOk_ge (by decide +kernel) | exact setOk_late (by decide +kernel) (by (simp (disch := omega) only [sx0, sx1, sx2, sx3, sx4, sx5, sx6, isBytes, ATy.isAgg, ATy.known, tyb, Nat.reduceAdd, Nat.reduceMul, Nat.reduceEqDiff, Nat.reduceLT, Nat.reduceLeDiff, ↓reduceIte, implies_true, decide_true, decide_false, ne_eq, Value.oneCell', Int.reduceToNat, ite_self, beq_self_eq_true, bne_self_eq_false, gt_iff_lt, Int.reduceEq, Int.reduceLT, Int.reduceLE, Int.reduceNe, List.forall_mem_cons, false_implies, forall_const, natS, *]; rfl)) (by refine wkR_row ?_; repeat' (first | exact trivial | refine wkL_c (by decide +kernel) ?_)) | exact Nat.le_of_ble_eq_true (by kernel_rfl)) ?_
        | refine nqif_ways (fun h => ?_) ?_
        | ((first | refine gif_ways (fun h => ?_) (fun h => ?_) | refine cif_ways (fun h => ?_) (fun h => ?_)) <;> (try simp only [decide_eq_true_eq, decide_eq_false_iff_not, Bool.not_eq_true', Bool.not_eq_false', Bool.not_true, Bool.not_false] at h) <;> (try (exfalso; omega)))) <;> (try (simp (disch := omega) only [sx0, sx1, sx2, sx3, sx4, sx5, sx6, isBytes, ATy.isAgg, ATy.known, tyb, Nat.reduceAdd, Nat.reduceMul, Nat.reduceEqDiff, Nat.reduceLT, Nat.reduceLeDiff, ↓reduceIte, implies_true, decide_true, decide_false, ne_eq, Value.oneCell', Int.reduceToNat, ite_self, beq_self_eq_true, bne_self_eq_false, gt_iff_lt, Int.reduceEq, Int.reduceLT, Int.reduceLE, Int.reduceNe, List.forall_mem_cons, false_implies, forall_const, *])))))
                  all_goals exact kround_i (t.size - (k + 1)) (by omega) ⟨k + 1, q * 10 + dg, q * 10 + dg, true, true, by omega, by omega, by (first | rfl | (simp (disch := omega) only [sx0, sx1, sx2, sx3, sx4, sx5, sx6, isBytes, ATy.isAgg, ATy.known, tyb, Nat.reduceAdd, Nat.reduceMul, Nat.reduceEqDiff, Nat.reduceLT, Nat.reduceLeDiff, ↓reduceIte, implies_true, decide_true, decide_false, ne_eq, Value.oneCell', Int.reduceToNat, ite_self, beq_self_eq_true, bne_self_eq_false, gt_iff_lt, Int.reduceEq, Int.reduceLT, Int.reduceLE, Int.reduceNe, List.forall_mem_cons, false_implies, forall_const, natS, *])), by (first | rfl | (simp (disch := omega) only [sx0, sx1, sx2, sx3, sx4, sx5, sx6, isBytes, ATy.isAgg, ATy.known, tyb, Nat.reduceAdd, Nat.reduceMul, Nat.reduceEqDiff, Nat.reduceLT, Nat.reduceLeDiff, ↓reduceIte, implies_true, decide_true, decide_false, ne_eq, Value.oneCell', Int.reduceToNat, ite_self, beq_self_eq_true, bne_self_eq_false, gt_iff_lt, Int.reduceEq, Int.reduceLT, Int.reduceLE, Int.reduceNe, List.forall_mem_cons, false_implies, forall_const, natS, *])), by (first | rfl | (simp (disch := omega) only [sx0, sx1, sx2, sx3, sx4, sx5, sx6, isBytes, ATy.isAgg, ATy.known, tyb, Nat.reduceAdd, Nat.reduceMul, Nat.reduceEqDiff, Nat.reduceLT, Nat.reduceLeDiff, ↓reduceIte, implies_true, decide_true, decide_false, ne_eq, Value.oneCell', Int.reduceToNat, ite_self, beq_self_eq_true, bne_self_eq_false, gt_iff_lt, Int.reduceEq, Int.reduceLT, Int.reduceLE, Int.reduceNe, List.forall_mem_cons, false_implies, forall_const, natS, *])), by (simp (disch := omega) only [sx0, sx1, sx2, sx3, sx4, sx5, sx6, isBytes, ATy.isAgg, ATy.known, tyb, Nat.reduceAdd, Nat.reduceMul, Nat.reduceEqDiff, Nat.reduceLT, Nat.reduceLeDiff, ↓reduceIte, implies_true, decide_true, decide_false, ne_eq, Value.oneCell', Int.reduceToNat, ite_self, beq_self_eq_true, bne_self_eq_false, gt_iff_lt, Int.reduceEq, Int.reduceLT, Int.reduceLE, Int.reduceNe, List.forall_mem_cons, false_implies, forall_const, natS, *]; congr 2; omega), by (first | rfl | (simp (disch := omega) only [sx0, sx1, sx2, sx3, sx4, sx5, sx6, isBytes, ATy.isAgg, ATy.known, tyb, Nat.reduceAdd, Nat.reduceMul, Nat.reduceEqDiff, Nat.reduceLT, Nat.reduceLeDiff, ↓reduceIte, implies_true, decide_true, decide_false, ne_eq, Value.oneCell', Int.reduceToNat, ite_self, beq_self_eq_true, bne_self_eq_false, gt_iff_lt, Int.reduceEq, Int.reduceLT, Int.reduceLE, Int.reduceNe, List.forall_mem_cons, false_implies, forall_const, natS, *])), by (first | rfl | (simp (disch := omega) only [sx0, sx1, sx2, sx3, sx4, sx5, sx6, isBytes, ATy.isAgg, ATy.known, tyb, Nat.reduceAdd, Nat.reduceMul, Nat.reduceEqDiff, Nat.reduceLT, Nat.reduceLeDiff, ↓reduceIte, implies_true, decide_true, decide_false, ne_eq, Value.oneCell', Int.reduceToNat, ite_self, beq_self_eq_true, bne_self_eq_false, gt_iff_lt, Int.reduceEq, Int.reduceLT, Int.reduceLE, Int.reduceNe, List.forall_mem_cons, false_implies, forall_const, natS, *])), by (first | rfl | (simp (disch := omega) only [sx0, sx1, sx2, sx3, sx4, sx5, sx6, isBytes, ATy.isAgg, ATy.known, tyb, Nat.reduceAdd, Nat.reduceMul, Nat.reduceEqDiff, Nat.reduceLT, Nat.reduceLeDiff, ↓reduceIte, implies_true, decide_true, decide_false, ne_eq, Value.oneCell', Int.reduceToNat, ite_self, beq_self_eq_true, bne_self_eq_false, gt_iff_lt, Int.reduceEq, Int.reduceLT, Int.reduceLE, Int.reduceNe, List.forall_mem_cons, false_implies, forall_const, natS, *])), by omega, by simp; omega, by simp; omega, by simp, n1, n2⟩
            · obtain ⟨r1, r2⟩ := nope.out k c f1 (okAt_no2 hkW hD)
              have hD2 := isD_no hD
              clear f1 hD
              (repeat' (first
    | refine awp_seq ?_
    | refine awp_block ?_
    | (refine awp_ret ?_; simp only [then_ret, block_ret, end_ret])
    | ((first
        | refine vplain ?_
        | refine vdraws (by kernel_rfl) ?_
        | refine vbuildS (by simp only [tyb, elemOf_s]) (by simp only [tyb, elemOf_s, List.length_cons, List.length_nil, List.all_cons, List.all_nil, Value.oneCell', Bool.and_self, Nat.reduceAdd, Nat.reduceMul, Nat.reduceLeDiff, Nat.reduceLT, true_and, and_true, and_self, Nat.lt_add_one, Nat.zero_mul, Nat.zero_le, Nat.one_mul]) ?_
        | refine vcond ?_
        | refine awp_exit ?_
        | refine awp_skip ?_
        | refine And.intro (by first | omega | assumption | exact setOk_ge (by decide +kernel) | exact setOk_late (by decide +kernel) (by (simp (disch := omega) only [sx0, sx1, sx2, sx3, sx4, sx5, sx6, isBytes, ATy.isAgg, ATy.known, tyb, Nat.reduceAdd, Nat.reduceMul, Nat.reduceEqDiff, Nat.reduceLT, Nat.reduceLeDiff, ↓reduceIte, implies_true, decide_true, decide_false, ne_eq, Value.oneCell', Int.reduceToNat, ite_self, beq_self_eq_true, bne_self_eq_false, gt_iff_lt, Int.reduceEq, Int.reduceLT, Int.reduceLE, Int.reduceNe, List.forall_mem_cons, false_implies, forall_const, natS, *]; rfl)) (by refine wkR_row ?_; repeat' (first | exact trivial | refine wkL_c (by decide +kernel) ?_)) | exact Nat.le_of_ble_eq_true (by kernel_rfl)) ?_
        | refine nqif_ways (fun h => ?_) ?_
        | ((first | refine gif_ways (fun h => ?_) (fun h => ?_) | refine cif_ways (fun h => ?_) (fun h => ?_)) <;> (try simp only [decide_eq_true_eq, decide_eq_false_iff_not, Bool.not_eq_true', Bool.not_eq_false', Bool.not_true, Bool.not_false] at h) <;> (try (exfalso; omega)))) <;> (try (simp (disch := omega) only [sx0, sx1, sx2, sx3, sx4, sx5, sx6, isBytes, ATy.isAgg, ATy.known, tyb, Nat.reduceAdd, Nat.reduceMul, Nat.reduceEqDiff, Nat.reduceLT, Nat.reduceLeDiff, ↓reduceIte, implies_true, decide_true, decide_false, ne_eq, Value.oneCell', Int.reduceToNat, ite_self, beq_self_eq_true, bne_self_eq_false, gt_iff_lt, Int.reduceEq, Int.reduceLT, Int.reduceLE, Int.reduceNe, List.forall_mem_cons, false_implies, forall_const, *])))))
              all_goals simp only [sxc, sx6, z0, p0, Nat.reduceEqDiff, ↓reduceIte, AV.ex.injEq, Value.bool.injEq, Value.int.injEq, Value.string.injEq, List.all_append, List.map_append, Tryd.f18, *]
        · have hgood : splitF (digL s.data.toList) d = some (digK t.data.toList W t.data.toList.length) := by
            rw [hT.out]; exact split_good hW.out (scan_end hS.out (show t.data.toList.length ≤ k by rw [size_toList]; omega) hW1 hno.out)
          have hkk : k = t.data.toList.length := by rw [size_toList]; omega
          have hVe : natV 0 (digK t.data.toList W t.data.toList.length) = v := by rw [← hkk]; exact hV.out
          clear hkk
          cases lg with
          | true =>
            have hbig := hlg'.out.1 rfl
            obtain ⟨r1, r2⟩ := parse_finB hpc.out hgood (by rw [hVe]; exact hbig)
            have hsm2 : sm = true := hsm'.out.2 (by omega)
            subst hsm2
            clear hgood hVe
            (repeat' (first
    | refine awp_seq ?_
    | refine awp_block ?_
    | (refine awp_ret ?_; simp only [then_ret, block_ret, end_ret])
    | ((first
        | refine vplain ?_
        | refine vdraws (by kernel_rfl) ?_
        | refine vbuildS (by simp only [tyb, elemOf_s]) (by simp only [tyb, elemOf_s, List.length_cons, List.length_nil, List.all_cons, List.all_nil, Value.oneCell', Bool.and_self, Nat.reduceAdd, Nat.reduceMul, Nat.reduceLeDiff, Nat.reduceLT, true_and, and_true, and_self, Nat.lt_add_one, Nat.zero_mul, Nat.zero_le, Nat.one_mul]) ?_
        | refine vcond ?_
        | refine awp_exit ?_
        | refine awp_skip ?_
        | refine And.intro (by first | omega | assumption | exact setOk_ge (by decide +kernel) | exact setOk_late (by decide +kernel) (by (simp (disch := omega) only [sx0, sx1, sx2, sx3, sx4, sx5, sx6, isBytes, ATy.isAgg, ATy.known, tyb, Nat.reduceAdd, Nat.reduceMul, Nat.reduceEqDiff, Nat.reduceLT, Nat.reduceLeDiff, ↓reduceIte, implies_true, decide_true, decide_false, ne_eq, Value.oneCell', Int.reduceToNat, ite_self, beq_self_eq_true, bne_self_eq_false, gt_iff_lt, Int.reduceEq, Int.reduceLT, Int.reduceLE, Int.reduceNe, List.forall_mem_cons, false_implies, forall_const, natS, *]; rfl)) (by refine wkR_row ?_; repeat' (first | exact trivial | refine wkL_c (by decide +kernel) ?_)) | exact Nat.le_of_ble_eq_true (by kernel_rfl)) ?_
        | refine nqif_ways (fun h => ?_) ?_
        | ((first | refine gif_ways (fun h => ?_) (fun h => ?_) | refine cif_ways (fun h => ?_) (fun h => ?_)) <;> (try simp only [decide_eq_true_eq, decide_eq_false_iff_not, Bool.not_eq_true', Bool.not_eq_false', Bool.not_true, Bool.not_false] at h) <;> (try (exfalso; omega)))) <;> (try (simp (disch := omega) only [sx0, sx1, sx2, sx3, sx4, sx5, sx6, isBytes, ATy.isAgg, ATy.known, tyb, Nat.reduceAdd, Nat.reduceMul, Nat.reduceEqDiff, Nat.reduceLT, Nat.reduceLeDiff, ↓reduceIte, implies_true, decide_true, decide_false, ne_eq, Value.oneCell', Int.reduceToNat, ite_self, beq_self_eq_true, bne_self_eq_false, gt_iff_lt, Int.reduceEq, Int.reduceLT, Int.reduceLE, Int.reduceNe, List.forall_mem_cons, false_implies, forall_const, *])))))
            all_goals simp only [sxc, sx6, z0, p0, Nat.reduceEqDiff, ↓reduceIte, AV.ex.injEq, Value.bool.injEq, Value.int.injEq, Value.string.injEq, List.all_append, List.map_append, Tryd.f18, *]
          | false =>
            have hsml : v ≤ 1000000000000 := by
              apply Classical.byContradiction
              intro hh
              exact absurd (hlg'.out.2 (by omega)) (by simp)
            have hqe := hqv'.out rfl
            subst hqe
            cases sm with
            | true =>
              have hv0 := hsm'.out.1 rfl
              obtain ⟨r1, r2⟩ := parse_finO hpc.out hgood hm'.out hVe hv0 hsml
              simp only [if_true, if_false, Bool.false_eq_true, ↓reduceIte] at r1
              have r1' : parseV s.data.toList d = 0 - (q : Int) := by rw [r1]; omega
              clear r1
              clear hgood hVe
              (repeat' (first
    | refine awp_seq ?_
    | refine awp_block ?_
    | (refine awp_ret ?_; simp only [then_ret, block_ret, end_ret])
    | ((first
        | refine vplain ?_
        | refine vdraws (by kernel_rfl) ?_
        | refine vbuildS (by simp only [tyb, elemOf_s]) (by simp only [tyb, elemOf_s, List.length_cons, List.length_nil, List.all_cons, List.all_nil, Value.oneCell', Bool.and_self, Nat.reduceAdd, Nat.reduceMul, Nat.reduceLeDiff, Nat.reduceLT, true_and, and_true, and_self, Nat.lt_add_one, Nat.zero_mul, Nat.zero_le, Nat.one_mul]) ?_
        | refine vcond ?_
        | refine awp_exit ?_
        | refine awp_skip ?_
        | refine And.intro (by first | omega | assumption | exact setOk_ge (by decide +kernel) | exact setOk_late (by decide +kernel) (by (simp (disch := omega) only [sx0, sx1, sx2, sx3, sx4, sx5, sx6, isBytes, ATy.isAgg, ATy.known, tyb, Nat.reduceAdd, Nat.reduceMul, Nat.reduceEqDiff, Nat.reduceLT, Nat.reduceLeDiff, ↓reduceIte, implies_true, decide_true, decide_false, ne_eq, Value.oneCell', Int.reduceToNat, ite_self, beq_self_eq_true, bne_self_eq_false, gt_iff_lt, Int.reduceEq, Int.reduceLT, Int.reduceLE, Int.reduceNe, List.forall_mem_cons, false_implies, forall_const, natS, *]; rfl)) (by refine wkR_row ?_; repeat' (first | exact trivial | refine wkL_c (by decide +kernel) ?_)) | exact Nat.le_of_ble_eq_true (by kernel_rfl)) ?_
        | refine nqif_ways (fun h => ?_) ?_
        | ((first | refine gif_ways (fun h => ?_) (fun h => ?_) | refine cif_ways (fun h => ?_) (fun h => ?_)) <;> (try simp only [decide_eq_true_eq, decide_eq_false_iff_not, Bool.not_eq_true', Bool.not_eq_false', Bool.not_true, Bool.not_false] at h) <;> (try (exfalso; omega)))) <;> (try (simp (disch := omega) only [sx0, sx1, sx2, sx3, sx4, sx5, sx6, isBytes, ATy.isAgg, ATy.known, tyb, Nat.reduceAdd, Nat.reduceMul, Nat.reduceEqDiff, Nat.reduceLT, Nat.reduceLeDiff, ↓reduceIte, implies_true, decide_true, decide_false, ne_eq, Value.oneCell', Int.reduceToNat, ite_self, beq_self_eq_true, bne_self_eq_false, gt_iff_lt, Int.reduceEq, Int.reduceLT, Int.reduceLE, Int.reduceNe, List.forall_mem_cons, false_implies, forall_const, *])))))
              all_goals simp only [sxc, sx6, z0, p0, Nat.reduceEqDiff, ↓reduceIte, AV.ex.injEq, Value.bool.injEq, Value.int.injEq, Value.string.injEq, List.all_append, List.map_append, Tryd.f18, *]
            | false =>
              have hv0 : q = 0 := by
                apply Classical.byContradiction
                intro hh
                exact absurd (hsm'.out.2 hh) (by simp)
              obtain ⟨r1, r2⟩ := parse_fin0 hpc.out hgood hm'.out (by rw [hVe]; exact hv0)
              simp only [if_true, if_false, Bool.false_eq_true, ↓reduceIte] at r2
              have hv0' : (q : Int) = 0 := by omega
              clear hgood hVe
              (repeat' (first
    | refine awp_seq ?_
    | refine awp_block ?_
    | (refine awp_ret ?_; simp only [then_ret, block_ret, end_ret])
    | ((first
        | refine vplain ?_
        | refine vdraws (by kernel_rfl) ?_
        | refine vbuildS (by simp only [tyb, elemOf_s]) (by simp only [tyb, elemOf_s, List.length_cons, List.length_nil, List.all_cons, List.all_nil, Value.oneCell', Bool.and_self, Nat.reduceAdd, Nat.reduceMul, Nat.reduceLeDiff, Nat.reduceLT, true_and, and_true, and_self, Nat.lt_add_one, Nat.zero_mul, Nat.zero_le, Nat.one_mul]) ?_
        | refine vcond ?_
        | refine awp_exit ?_
        | refine awp_skip ?_
        | refine And.intro (by first | omega | assumption | exact setOk_ge (by decide +kernel) | exact setOk_late (by decide +kernel) (by (simp (disch := omega) only [sx0, sx1, sx2, sx3, sx4, sx5, sx6, isBytes, ATy.isAgg, ATy.known, tyb, Nat.reduceAdd, Nat.reduceMul, Nat.reduceEqDiff, Nat.reduceLT, Nat.reduceLeDiff, ↓reduceIte, implies_true, decide_true, decide_false, ne_eq, Value.oneCell', Int.reduceToNat, ite_self, beq_self_eq_true, bne_self_eq_false, gt_iff_lt, Int.reduceEq, Int.reduceLT, Int.reduceLE, Int.reduceNe, List.forall_mem_cons, false_implies, forall_const, natS, *]; rfl)) (by refine wkR_row ?_; repeat' (first | exact trivial | refine wkL_c (by decide +kernel) ?_)) | exact Nat.le_of_ble_eq_true (by kernel_rfl)) ?_
        | refine nqif_ways (fun h => ?_) ?_
        | ((first | refine gif_ways (fun h => ?_) (fun h => ?_) | refine cif_ways (fun h => ?_) (fun h => ?_)) <;> (try simp only [decide_eq_true_eq, decide_eq_false_iff_not, Bool.not_eq_true', Bool.not_eq_false', Bool.not_true, Bool.not_false] at h) <;> (try (exfalso; omega)))) <;> (try (simp (disch := omega) only [sx0, sx1, sx2, sx3, sx4, sx5, sx6, isBytes, ATy.isAgg, ATy.known, tyb, Nat.reduceAdd, Nat.reduceMul, Nat.reduceEqDiff, Nat.reduceLT, Nat.reduceLeDiff, ↓reduceIte, implies_true, decide_true, decide_false, ne_eq, Value.oneCell', Int.reduceToNat, ite_self, beq_self_eq_true, bne_self_eq_false, gt_iff_lt, Int.reduceEq, Int.reduceLT, Int.reduceLE, Int.reduceNe, List.forall_mem_cons, false_implies, forall_const, *])))))
              all_goals simp only [sxc, sx6, z0, p0, Nat.reduceEqDiff, ↓reduceIte, AV.ex.injEq, Value.bool.injEq, Value.int.injEq, Value.string.injEq, List.all_append, List.map_append, Tryd.f18, *]
end Go.Proofs.YtaphbajfjmhpnaaDoor
