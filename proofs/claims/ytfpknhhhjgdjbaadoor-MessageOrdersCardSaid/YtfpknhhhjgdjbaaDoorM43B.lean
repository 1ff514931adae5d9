/-
  Chapter 43, walked: Check and Encode, the program's and the document's. Conditions: those that each theorem states.
-/
import Derived.Test.YtfpknhhhjgdjbaaDoorM43Q
import Derived.Test.YtfpknhhhjgdjbaaDoorGC07
namespace Go.Proofs.YtfpknhhhjgdjbaaDoor
open Go.RowKit
set_option maxRecDepth 100000
set_option linter.unusedSimpArgs false

theorem chk_name {m : MsgV} (h : nameB m.sender = false) : checkM m = 4 := by unfold checkM; rw [h]; rfl
theorem chk_bad {m : MsgV} (h : nameB m.sender = true) (h2 : badM m = true) : checkM m = 1 := by unfold checkM; rw [h, h2]; rfl
theorem bad_day {m : MsgV} (h : dayB m.day = false) : badM m = true := by unfold badM; simp [h]
theorem bad_text {m : MsgV} (h : textB 32 64 m.text = false) : badM m = true := by unfold badM; simp [h]
theorem chk_num {m : MsgV} (h : nameB m.sender = true) (h2 : m.seq < 1 ∨ 1000000000 < m.seq ∨ m.kind < 1 ∨ 3 < m.kind ∨ m.account < 1000 ∨ m.amount < 1 ∨ 1000000000000 < m.amount ∨ m.day < 0 ∨ 73048 < m.day) : checkM m = 1 := by
  refine chk_bad h ?_
  by_cases hd : 0 ≤ m.day ∧ m.day ≤ 73048
  · cases hb : badM m with
    | true => rfl
    | false =>
      exfalso
      unfold badM at hb
      simp only [Bool.or_eq_false_iff, decide_eq_false_iff_not] at hb
      omega
  · refine bad_day ?_
    unfold dayB
    simp only [Bool.and_eq_false_iff, decide_eq_false_iff_not]
    omega
theorem chk_good {m : MsgV} (h : nameB m.sender = true) (h3 : textB 32 64 m.text = true) (h2 : 1 ≤ m.seq ∧ m.seq ≤ 1000000000 ∧ 1 ≤ m.kind ∧ m.kind ≤ 3 ∧ 1000 ≤ m.account ∧ 1 ≤ m.amount ∧ m.amount ≤ 1000000000000 ∧ 0 ≤ m.day ∧ m.day ≤ 73048) : checkM m = 0 := by
  have : badM m = false := by
    obtain ⟨g1, g2, g3, g4, g5, g6, g7, g8, g9⟩ := h2
    unfold badM dayB
    rw [h3, decide_eq_true g8, decide_eq_true g9, decide_eq_false (show ¬ m.seq < 1 by omega), decide_eq_false (show ¬ 1000000000 < m.seq by omega), decide_eq_false (show ¬ m.kind < 1 by omega), decide_eq_false (show ¬ 3 < m.kind by omega), decide_eq_false (show ¬ m.account < 1000 by omega), decide_eq_false (show ¬ m.amount < 1 by omega), decide_eq_false (show ¬ 1000000000000 < m.amount by omega)]
    rfl
  unfold checkM
  rw [h, this]; rfl
theorem day_in {n : Int} (h : dayB n = true) : 0 ≤ n ∧ n ≤ 73048 := by unfold dayB at h; simpa using h
theorem Check_con (m : MsgV) (hs : m.sender.size ≤ 9223372036854775807) (ht : m.text.size ≤ 9223372036854775807) : Con Tryd.prog CtxP 34 [.agg [.ex (.string m.sender), .ex (.int .i64 m.seq), .ex (.int .i64 m.kind), .ex (.int .i64 m.account), .ex (.int .i64 m.amount), .ex (.int .i64 m.day), .ex (.string m.text)]] (.val (.ex (.int .i64 (checkM m)))) := by
  have c1 := name_con m.sender hs
  have c2 := text_con m.text ht
  clear hs ht
  refine con_val base Tryd.func34 rfl rfl (by kernel_rfl) (Nat.le_of_ble_eq_true rfl) ?_
  rw [init_eq]
  cases hk : nameB m.sender with
  | false =>
    have hr := chk_name hk
    rw [hk] at c1
    clear hk
    (repeat' (first | refine awp_seq ?_ | refine awp_block ?_ | (refine awp_ret ?_; simp only [then_ret, block_ret, end_ret]) | ((first | refine call_val (by first | (simp only [sxd, z0, p0, Nat.reduceEqDiff, ↓reduceIte]; (try rfl); done) | (simp (disch := omega) only [sxd, z0, p0, sx, Value.oneCell', ↓reduceIte, Nat.reduceAdd, Nat.reduceMul, Nat.reduceEqDiff, Nat.reduceLT, Nat.reduceLeDiff, Int.reduceToNat, Int.reduceEq, Int.reduceLT, Int.reduceLE, Int.reduceNe, *]; (try rfl); done)) (c1) ?_ | refine vplain ?_ | refine vdraws (by kernel_rfl) ?_ | refine vbuildS (by simp only [tyb, elemOf_s]) (by simp only [tyb, sxb, Value.oneCell', Nat.reduceAdd, Nat.reduceMul, Nat.reduceLeDiff, Nat.reduceLT]) ?_ | refine vcond ?_ | refine awp_exit ?_ | refine awp_skip ?_ | refine And.intro (by first | omega | assumption | exact setOk_ge (by decide +kernel) | exact setOk_late (by decide +kernel) (by (simp (disch := omega) only [sx, Value.oneCell', ↓reduceIte, Nat.reduceAdd, Nat.reduceMul, Nat.reduceEqDiff, Nat.reduceLT, Nat.reduceLeDiff, Int.reduceToNat, Int.reduceEq, Int.reduceLT, Int.reduceLE, Int.reduceNe, natS, *]; rfl)) (by refine wkR_row ?_; repeat' (first | exact trivial | refine wkL_c (by decide +kernel) ?_)) | exact Nat.le_of_ble_eq_true (by kernel_rfl)) ?_ | refine nqif_ways (fun h => ?_) ?_ | ((first | refine gif_ways (fun h => ?_) (fun h => ?_) | refine cif_ways (fun h => ?_) (fun h => ?_)) <;> (try simp only [sxn] at h) <;> (try (exfalso; omega)))) <;> (try (simp (disch := omega) only [sx, Value.oneCell', ↓reduceIte, Nat.reduceAdd, Nat.reduceMul, Nat.reduceEqDiff, Nat.reduceLT, Nat.reduceLeDiff, Int.reduceToNat, Int.reduceEq, Int.reduceLT, Int.reduceLE, Int.reduceNe, *])))))
    all_goals simp only [sxd, z0, p0, Nat.reduceEqDiff, ↓reduceIte, Tryd.f34, *]
  | true =>
    cases ht : textB 32 64 m.text with
    | false =>
      have hr := chk_bad hk (bad_text ht)
      rw [hk] at c1
      rw [ht] at c2
      clear hk ht
      (repeat' (first | refine awp_seq ?_ | refine awp_block ?_ | (refine awp_ret ?_; simp only [then_ret, block_ret, end_ret]) | ((first | refine call_val (by first | (simp only [sxd, z0, p0, Nat.reduceEqDiff, ↓reduceIte]; (try rfl); done) | (simp (disch := omega) only [sxd, z0, p0, sx, Value.oneCell', ↓reduceIte, Nat.reduceAdd, Nat.reduceMul, Nat.reduceEqDiff, Nat.reduceLT, Nat.reduceLeDiff, Int.reduceToNat, Int.reduceEq, Int.reduceLT, Int.reduceLE, Int.reduceNe, *]; (try rfl); done)) (c1) ?_ | refine call_val (by first | (simp only [sxd, z0, p0, Nat.reduceEqDiff, ↓reduceIte]; (try rfl); done) | (simp (disch := omega) only [sxd, z0, p0, sx, Value.oneCell', ↓reduceIte, Nat.reduceAdd, Nat.reduceMul, Nat.reduceEqDiff, Nat.reduceLT, Nat.reduceLeDiff, Int.reduceToNat, Int.reduceEq, Int.reduceLT, Int.reduceLE, Int.reduceNe, *]; (try rfl); done)) (c2) ?_ | refine vplain ?_ | refine vdraws (by kernel_rfl) ?_ | refine vbuildS (by simp only [tyb, elemOf_s]) (by simp only [tyb, sxb, Value.oneCell', Nat.reduceAdd, Nat.reduceMul, Nat.reduceLeDiff, Nat.reduceLT]) ?_ | refine vcond ?_ | refine awp_exit ?_ | refine awp_skip ?_ | refine And.intro (by first | omega | assumption | exact setOk_ge (by decide +kernel) | exact setOk_late (by decide +kernel) (by (simp (disch := omega) only [sx, Value.oneCell', ↓reduceIte, Nat.reduceAdd, Nat.reduceMul, Nat.reduceEqDiff, Nat.reduceLT, Nat.reduceLeDiff, Int.reduceToNat, Int.reduceEq, Int.reduceLT, Int.reduceLE, Int.reduceNe, natS, *]; rfl)) (by refine wkR_row ?_; repeat' (first | exact trivial | refine wkL_c (by decide +kernel) ?_)) | exact Nat.le_of_ble_eq_true (by kernel_rfl)) ?_ | refine nqif_ways (fun h => ?_) ?_ | ((first | refine gif_ways (fun h => ?_) (fun h => ?_) | refine cif_ways (fun h => ?_) (fun h => ?_)) <;> (try simp only [sxn] at h) <;> (try (exfalso; omega)))) <;> (try (simp (disch := omega) only [sx, Value.oneCell', ↓reduceIte, Nat.reduceAdd, Nat.reduceMul, Nat.reduceEqDiff, Nat.reduceLT, Nat.reduceLeDiff, Int.reduceToNat, Int.reduceEq, Int.reduceLT, Int.reduceLE, Int.reduceNe, *])))))
      all_goals simp only [sxd, z0, p0, Nat.reduceEqDiff, ↓reduceIte, Tryd.f34, *]
    | true =>
      have hk' := Lib.hid hk
      have ht' := Lib.hid ht
      rw [hk] at c1
      rw [ht] at c2
      clear hk ht
      (repeat' (first | refine awp_seq ?_ | refine awp_block ?_ | (refine awp_ret ?_; simp only [then_ret, block_ret, end_ret]) | ((first | refine call_val (by first | (simp only [sxd, z0, p0, Nat.reduceEqDiff, ↓reduceIte]; (try rfl); done) | (simp (disch := omega) only [sxd, z0, p0, sx, Value.oneCell', ↓reduceIte, Nat.reduceAdd, Nat.reduceMul, Nat.reduceEqDiff, Nat.reduceLT, Nat.reduceLeDiff, Int.reduceToNat, Int.reduceEq, Int.reduceLT, Int.reduceLE, Int.reduceNe, *]; (try rfl); done)) (c1) ?_ | refine call_val (by first | (simp only [sxd, z0, p0, Nat.reduceEqDiff, ↓reduceIte]; (try rfl); done) | (simp (disch := omega) only [sxd, z0, p0, sx, Value.oneCell', ↓reduceIte, Nat.reduceAdd, Nat.reduceMul, Nat.reduceEqDiff, Nat.reduceLT, Nat.reduceLeDiff, Int.reduceToNat, Int.reduceEq, Int.reduceLT, Int.reduceLE, Int.reduceNe, *]; (try rfl); done)) (c2) ?_ | refine vplain ?_ | refine vdraws (by kernel_rfl) ?_ | refine vbuildS (by simp only [tyb, elemOf_s]) (by simp only [tyb, sxb, Value.oneCell', Nat.reduceAdd, Nat.reduceMul, Nat.reduceLeDiff, Nat.reduceLT]) ?_ | refine vcond ?_ | refine awp_exit ?_ | refine awp_skip ?_ | refine And.intro (by first | omega | assumption | exact setOk_ge (by decide +kernel) | exact setOk_late (by decide +kernel) (by (simp (disch := omega) only [sx, Value.oneCell', ↓reduceIte, Nat.reduceAdd, Nat.reduceMul, Nat.reduceEqDiff, Nat.reduceLT, Nat.reduceLeDiff, Int.reduceToNat, Int.reduceEq, Int.reduceLT, Int.reduceLE, Int.reduceNe, natS, *]; rfl)) (by refine wkR_row ?_; repeat' (first | exact trivial | refine wkL_c (by decide +kernel) ?_)) | exact Nat.le_of_ble_eq_true (by kernel_rfl)) ?_ | refine nqif_ways (fun h => ?_) ?_ | ((first | refine gif_ways (fun h => ?_) (fun h => ?_) | refine cif_ways (fun h => ?_) (fun h => ?_)) <;> (try simp only [sxn] at h) <;> (try (exfalso; omega)))) <;> (try (simp (disch := omega) only [sx, Value.oneCell', ↓reduceIte, Nat.reduceAdd, Nat.reduceMul, Nat.reduceEqDiff, Nat.reduceLT, Nat.reduceLeDiff, Int.reduceToNat, Int.reduceEq, Int.reduceLT, Int.reduceLE, Int.reduceNe, *])))))
      all_goals first
        | (have hr := chk_num hk'.out (by omega); simp only [sxd, z0, p0, Nat.reduceEqDiff, ↓reduceIte, Tryd.f34, *])
        | (have hr := chk_good hk'.out ht'.out (by omega); simp only [sxd, z0, p0, Nat.reduceEqDiff, ↓reduceIte, Tryd.f34, *])
set_option maxHeartbeats 4000000 in
theorem RCheck_con (m : MsgV) (hs : m.sender.size ≤ 9223372036854775807) (ht : m.text.size ≤ 9223372036854775807) : Con Tryd.prog CtxP 35 [.agg [.ex (.string m.sender), .ex (.int .i64 m.seq), .ex (.int .i64 m.kind), .ex (.int .i64 m.account), .ex (.int .i64 m.amount), .ex (.int .i64 m.day), .ex (.string m.text)]] (.val (.ex (.int .i64 (checkM m)))) := by
  have c1 := RName_con m.sender hs
  have c2 := RPrinted_con m.text 32 64 ht
  have c3 := RValid_con m.day
  clear hs ht
  refine con_val base Tryd.func35 rfl rfl (by kernel_rfl) (Nat.le_of_ble_eq_true rfl) ?_
  rw [init_eq]
  cases hk : nameB m.sender with
  | false =>
    have hr := chk_name hk
    rw [hk] at c1
    clear hk
    (repeat' (first | refine awp_seq ?_ | refine awp_block ?_ | (refine awp_ret ?_; simp only [then_ret, block_ret, end_ret]) | ((first | refine call_val (by first | (simp only [sxd, z0, p0, Nat.reduceEqDiff, ↓reduceIte]; (try rfl); done) | (simp (disch := omega) only [sxd, z0, p0, sx, Value.oneCell', ↓reduceIte, Nat.reduceAdd, Nat.reduceMul, Nat.reduceEqDiff, Nat.reduceLT, Nat.reduceLeDiff, Int.reduceToNat, Int.reduceEq, Int.reduceLT, Int.reduceLE, Int.reduceNe, *]; (try rfl); done)) (c1) ?_ | refine vplain ?_ | refine vdraws (by kernel_rfl) ?_ | refine vbuildS (by simp only [tyb, elemOf_s]) (by simp only [tyb, sxb, Value.oneCell', Nat.reduceAdd, Nat.reduceMul, Nat.reduceLeDiff, Nat.reduceLT]) ?_ | refine vcond ?_ | refine awp_exit ?_ | refine awp_skip ?_ | refine And.intro (by first | omega | assumption | exact setOk_ge (by decide +kernel) | exact setOk_late (by decide +kernel) (by (simp (disch := omega) only [sx, Value.oneCell', ↓reduceIte, Nat.reduceAdd, Nat.reduceMul, Nat.reduceEqDiff, Nat.reduceLT, Nat.reduceLeDiff, Int.reduceToNat, Int.reduceEq, Int.reduceLT, Int.reduceLE, Int.reduceNe, natS, *]; rfl)) (by refine wkR_row ?_; repeat' (first | exact trivial | refine wkL_c (by decide +kernel) ?_)) | exact Nat.le_of_ble_eq_true (by kernel_rfl)) ?_ | refine nqif_ways (fun h => ?_) ?_ | ((first | refine gif_ways (fun h => ?_) (fun h => ?_) | refine cif_ways (fun h => ?_) (fun h => ?_)) <;> (try simp only [sxn] at h) <;> (try (exfalso; omega)))) <;> (try (simp (disch := omega) only [sx, Value.oneCell', ↓reduceIte, Nat.reduceAdd, Nat.reduceMul, Nat.reduceEqDiff, Nat.reduceLT, Nat.reduceLeDiff, Int.reduceToNat, Int.reduceEq, Int.reduceLT, Int.reduceLE, Int.reduceNe, *])))))
    all_goals simp only [sxd, z0, p0, Nat.reduceEqDiff, ↓reduceIte, Tryd.f35, *]
  | true =>
    cases hd : dayB m.day with
    | false =>
      have hr := chk_bad hk (bad_day hd)
      rw [hk] at c1
      rw [hd] at c3
      clear hk hd
      (repeat' (first | refine awp_seq ?_ | refine awp_block ?_ | (refine awp_ret ?_; simp only [then_ret, block_ret, end_ret]) | ((first | refine call_val (by first | (simp only [sxd, z0, p0, Nat.reduceEqDiff, ↓reduceIte]; (try rfl); done) | (simp (disch := omega) only [sxd, z0, p0, sx, Value.oneCell', ↓reduceIte, Nat.reduceAdd, Nat.reduceMul, Nat.reduceEqDiff, Nat.reduceLT, Nat.reduceLeDiff, Int.reduceToNat, Int.reduceEq, Int.reduceLT, Int.reduceLE, Int.reduceNe, *]; (try rfl); done)) (c1) ?_ | refine call_val (by first | (simp only [sxd, z0, p0, Nat.reduceEqDiff, ↓reduceIte]; (try rfl); done) | (simp (disch := omega) only [sxd, z0, p0, sx, Value.oneCell', ↓reduceIte, Nat.reduceAdd, Nat.reduceMul, Nat.reduceEqDiff, Nat.reduceLT, Nat.reduceLeDiff, Int.reduceToNat, Int.reduceEq, Int.reduceLT, Int.reduceLE, Int.reduceNe, *]; (try rfl); done)) (c3) ?_ | refine vplain ?_ | refine vdraws (by kernel_rfl) ?_ | refine vbuildS (by simp only [tyb, elemOf_s]) (by simp only [tyb, sxb, Value.oneCell', Nat.reduceAdd, Nat.reduceMul, Nat.reduceLeDiff, Nat.reduceLT]) ?_ | refine vcond ?_ | refine awp_exit ?_ | refine awp_skip ?_ | refine And.intro (by first | omega | assumption | exact setOk_ge (by decide +kernel) | exact setOk_late (by decide +kernel) (by (simp (disch := omega) only [sx, Value.oneCell', ↓reduceIte, Nat.reduceAdd, Nat.reduceMul, Nat.reduceEqDiff, Nat.reduceLT, Nat.reduceLeDiff, Int.reduceToNat, Int.reduceEq, Int.reduceLT, Int.reduceLE, Int.reduceNe, natS, *]; rfl)) (by refine wkR_row ?_; repeat' (first | exact trivial | refine wkL_c (by decide +kernel) ?_)) | exact Nat.le_of_ble_eq_true (by kernel_rfl)) ?_ | refine nqif_ways (fun h => ?_) ?_ | ((first | refine gif_ways (fun h => ?_) (fun h => ?_) | refine cif_ways (fun h => ?_) (fun h => ?_)) <;> (try simp only [sxn] at h) <;> (try (exfalso; omega)))) <;> (try (simp (disch := omega) only [sx, Value.oneCell', ↓reduceIte, Nat.reduceAdd, Nat.reduceMul, Nat.reduceEqDiff, Nat.reduceLT, Nat.reduceLeDiff, Int.reduceToNat, Int.reduceEq, Int.reduceLT, Int.reduceLE, Int.reduceNe, *])))))
      all_goals simp only [sxd, z0, p0, Nat.reduceEqDiff, ↓reduceIte, Tryd.f35, *]
    | true =>
      have hd' := Lib.hid (day_in hd)
      rw [hd] at c3
      cases ht : textB 32 64 m.text with
      | false =>
        have hr := chk_bad hk (bad_text ht)
        rw [hk] at c1
        rw [ht] at c2
        clear hk ht hd
        (repeat' (first | refine awp_seq ?_ | refine awp_block ?_ | (refine awp_ret ?_; simp only [then_ret, block_ret, end_ret]) | ((first | refine call_val (by first | (simp only [sxd, z0, p0, Nat.reduceEqDiff, ↓reduceIte]; (try rfl); done) | (simp (disch := omega) only [sxd, z0, p0, sx, Value.oneCell', ↓reduceIte, Nat.reduceAdd, Nat.reduceMul, Nat.reduceEqDiff, Nat.reduceLT, Nat.reduceLeDiff, Int.reduceToNat, Int.reduceEq, Int.reduceLT, Int.reduceLE, Int.reduceNe, *]; (try rfl); done)) (c1) ?_ | refine call_val (by first | (simp only [sxd, z0, p0, Nat.reduceEqDiff, ↓reduceIte]; (try rfl); done) | (simp (disch := omega) only [sxd, z0, p0, sx, Value.oneCell', ↓reduceIte, Nat.reduceAdd, Nat.reduceMul, Nat.reduceEqDiff, Nat.reduceLT, Nat.reduceLeDiff, Int.reduceToNat, Int.reduceEq, Int.reduceLT, Int.reduceLE, Int.reduceNe, *]; (try rfl); done)) (c2) ?_ | refine call_val (by first | (simp only [sxd, z0, p0, Nat.reduceEqDiff, ↓reduceIte]; (try rfl); done) | (simp (disch := omega) only [sxd, z0, p0, sx, Value.oneCell', ↓reduceIte, Nat.reduceAdd, Nat.reduceMul, Nat.reduceEqDiff, Nat.reduceLT, Nat.reduceLeDiff, Int.reduceToNat, Int.reduceEq, Int.reduceLT, Int.reduceLE, Int.reduceNe, *]; (try rfl); done)) (c3) ?_ | refine vplain ?_ | refine vdraws (by kernel_rfl) ?_ | refine vbuildS (by simp only [tyb, elemOf_s]) (by simp only [tyb, sxb, Value.oneCell', Nat.reduceAdd, Nat.reduceMul, Nat.reduceLeDiff, Nat.reduceLT]) ?_ | refine vcond ?_ | refine awp_exit ?_ | refine awp_skip ?_ | refine And.intro (by first | omega | assumption | exact setOk_ge (by decide +kernel) | exact setOk_late (by decide +kernel) (by (simp (disch := omega) only [sx, Value.oneCell', ↓reduceIte, Nat.reduceAdd, Nat.reduceMul, Nat.reduceEqDiff, Nat.reduceLT, Nat.reduceLeDiff, Int.reduceToNat, Int.reduceEq, Int.reduceLT, Int.reduceLE, Int.reduceNe, natS, *]; rfl)) (by refine wkR_row ?_; repeat' (first | exact trivial | refine wkL_c (by decide +kernel) ?_)) | exact Nat.le_of_ble_eq_true (by kernel_rfl)) ?_ | refine nqif_ways (fun h => ?_) ?_ | ((first | refine gif_ways (fun h => ?_) (fun h => ?_) | refine cif_ways (fun h => ?_) (fun h => ?_)) <;> (try simp only [sxn] at h) <;> (try (exfalso; omega)))) <;> (try (simp (disch := omega) only [sx, Value.oneCell', ↓reduceIte, Nat.reduceAdd, Nat.reduceMul, Nat.reduceEqDiff, Nat.reduceLT, Nat.reduceLeDiff, Int.reduceToNat, Int.reduceEq, Int.reduceLT, Int.reduceLE, Int.reduceNe, *])))))
        all_goals simp only [sxd, z0, p0, Nat.reduceEqDiff, ↓reduceIte, Tryd.f35, *]
      | true =>
        have hk' := Lib.hid hk
        have ht' := Lib.hid ht
        rw [hk] at c1
        rw [ht] at c2
        clear hk ht hd
        (repeat' (first | refine awp_seq ?_ | refine awp_block ?_ | (refine awp_ret ?_; simp only [then_ret, block_ret, end_ret]) | ((first | refine call_val (by first | (simp only [sxd, z0, p0, Nat.reduceEqDiff, ↓reduceIte]; (try rfl); done) | (simp (disch := omega) only [sxd, z0, p0, sx, Value.oneCell', ↓reduceIte, Nat.reduceAdd, Nat.reduceMul, Nat.reduceEqDiff, Nat.reduceLT, Nat.reduceLeDiff, Int.reduceToNat, Int.reduceEq, Int.reduceLT, Int.reduceLE, Int.reduceNe, *]; (try rfl); done)) (c1) ?_ | refine call_val (by first | (simp only [sxd, z0, p0, Nat.reduceEqDiff, ↓reduceIte]; (try rfl); done) | (simp (disch := omega) only [sxd, z0, p0, sx, Value.oneCell', ↓reduceIte, Nat.reduceAdd, Nat.reduceMul, Nat.reduceEqDiff, Nat.reduceLT, Nat.reduceLeDiff, Int.reduceToNat, Int.reduceEq, Int.reduceLT, Int.reduceLE, Int.reduceNe, *]; (try rfl); done)) (c2) ?_ | refine call_val (by first | (simp only [sxd, z0, p0, Nat.reduceEqDiff, ↓reduceIte]; (try rfl); done) | (simp (disch := omega) only [sxd, z0, p0, sx, Value.oneCell', ↓reduceIte, Nat.reduceAdd, Nat.reduceMul, Nat.reduceEqDiff, Nat.reduceLT, Nat.reduceLeDiff, Int.reduceToNat, Int.reduceEq, Int.reduceLT, Int.reduceLE, Int.reduceNe, *]; (try rfl); done)) (c3) ?_ | refine vplain ?_ | refine vdraws (by kernel_rfl) ?_ | refine vbuildS (by simp only [tyb, elemOf_s]) (by simp only [tyb, sxb, Value.oneCell', Nat.reduceAdd, Nat.reduceMul, Nat.reduceLeDiff, Nat.reduceLT]) ?_ | refine vcond ?_ | refine awp_exit ?_ | refine awp_skip ?_ | refine And.intro (by first | omega | assumption | exact setOk_ge (by decide +kernel) | exact setOk_late (by decide +kernel) (by (simp (disch := omega) only [sx, Value.oneCell', ↓reduceIte, Nat.reduceAdd, Nat.reduceMul, Nat.reduceEqDiff, Nat.reduceLT, Nat.reduceLeDiff, Int.reduceToNat, Int.reduceEq, Int.reduceLT, Int.reduceLE, Int.reduceNe, natS, *]; rfl)) (by refine wkR_row ?_; repeat' (first | exact trivial | refine wkL_c (by decide +kernel) ?_)) | exact Nat.le_of_ble_eq_true (by kernel_rfl)) ?_ | refine nqif_ways (fun h => ?_) ?_ | ((first | refine gif_ways (fun h => ?_) (fun h => ?_) | refine cif_ways (fun h => ?_) (fun h => ?_)) <;> (try simp only [sxn] at h) <;> (try (exfalso; omega)))) <;> (try (simp (disch := omega) only [sx, Value.oneCell', ↓reduceIte, Nat.reduceAdd, Nat.reduceMul, Nat.reduceEqDiff, Nat.reduceLT, Nat.reduceLeDiff, Int.reduceToNat, Int.reduceEq, Int.reduceLT, Int.reduceLE, Int.reduceNe, *])))))
        all_goals (have hdd := hd'.out)
        all_goals first
          | (have hr := chk_num hk'.out (by omega); simp only [sxd, z0, p0, Nat.reduceEqDiff, ↓reduceIte, Tryd.f35, *])
          | (have hr := chk_good hk'.out ht'.out (by omega); simp only [sxd, z0, p0, Nat.reduceEqDiff, ↓reduceIte, Tryd.f35, *])
theorem nums_next {l : List Int} {k : Nat} {n : Int} (e : l[k]? = some n) (s : ByteArray) : texts (s :: itoaBs (l.take k)) ++ [[.ex (.string ⟨(Lib.itoa n).toArray⟩)]] = texts (s :: itoaBs (l.take (k + 1))) := by
  rw [itoaBs_next e]; simp [texts]
theorem flds_eq (m : MsgV) : texts (m.sender :: itoaBs (nums m)) ++ [[.ex (.string m.text)]] = texts (fldsM m) := by
  simp [texts, fldsM]
theorem texts_one (s : ByteArray) : texts (s :: itoaBs []) = [[.ex (.string s)]] := rfl
set_option maxHeartbeats 4000000 in
theorem Encode_con (m : MsgV) (h : m.Fit) : Con Tryd.prog CtxP 36 [.agg [.ex (.string m.sender), .ex (.int .i64 m.seq), .ex (.int .i64 m.kind), .ex (.int .i64 m.account), .ex (.int .i64 m.amount), .ex (.int .i64 m.day), .ex (.string m.text)]] (.val (.ex (.string (encM m)))) := by
  have hP := Pack_con (fldsM m) (by have := encM_pk h; omega) (by rw [flds_len]; decide)
  have hi := Lib.hid h.i
  clear h
  refine con_val base Tryd.func36 rfl rfl (by kernel_rfl) (Nat.le_of_ble_eq_true rfl) ?_
  rw [init_eq]
  have q1 := texts_one m.sender
  (repeat' (first | refine awp_seq ?_ | refine awp_block ?_ | (refine awp_ret ?_; simp only [then_ret, block_ret, end_ret]) | ((first | refine vplain ?_ | refine vdraws (by kernel_rfl) ?_ | refine vbuildS (by simp only [tyb, elemOf_s]) (by simp only [tyb, sxb, Value.oneCell', Nat.reduceAdd, Nat.reduceMul, Nat.reduceLeDiff, Nat.reduceLT]) ?_ | refine vcond ?_ | refine awp_exit ?_ | refine awp_skip ?_ | refine And.intro (by first | omega | assumption | exact setOk_ge (by decide +kernel) | exact setOk_late (by decide +kernel) (by (simp (disch := omega) only [sx, Value.oneCell', ↓reduceIte, Nat.reduceAdd, Nat.reduceMul, Nat.reduceEqDiff, Nat.reduceLT, Nat.reduceLeDiff, Int.reduceToNat, Int.reduceEq, Int.reduceLT, Int.reduceLE, Int.reduceNe, natS, *]; rfl)) (by refine wkR_row ?_; repeat' (first | exact trivial | refine wkL_c (by decide +kernel) ?_)) | exact Nat.le_of_ble_eq_true (by kernel_rfl)) ?_ | refine nqif_ways (fun h => ?_) ?_ | ((first | refine gif_ways (fun h => ?_) (fun h => ?_) | refine cif_ways (fun h => ?_) (fun h => ?_)) <;> (try simp only [sxn] at h) <;> (try (exfalso; omega)))) <;> (try (simp (disch := omega) only [sx, Value.oneCell', ↓reduceIte, Nat.reduceAdd, Nat.reduceMul, Nat.reduceEqDiff, Nat.reduceLT, Nat.reduceLeDiff, Int.reduceToNat, Int.reduceEq, Int.reduceLT, Int.reduceLE, Int.reduceNe, *])))))
  refine vloop (fun n tm hp nx => ∃ (k b1 b3 : Nat), n = 5 - k ∧ k ≤ 5 ∧ tm 1 = .pt b1 0 0 ∧ hp b1 = some ⟨44, [[.ex (.string m.sender), .ex (.int .i64 m.seq), .ex (.int .i64 m.kind), .ex (.int .i64 m.account), .ex (.int .i64 m.amount), .ex (.int .i64 m.day), .ex (.string m.text)]], true⟩ ∧ b1 < nx ∧ tm 3 = .own b3 ∧ hp b3 = some ⟨9, texts (m.sender :: itoaBs ((nums m).take k)), true⟩ ∧ b3 < nx ∧ ¬ b1 = b3 ∧ ¬ b3 = b1 ∧
    tm 19 = .agg [.ex (.int .i64 m.seq), .ex (.int .i64 m.kind), .ex (.int .i64 m.account), .ex (.int .i64 m.amount), .ex (.int .i64 m.day)] ∧ tm 20 = .ex (.int .i64 k)) 5 ⟨0, _, _, rfl, Nat.zero_le _, by (simp (disch := omega) only [sx, natS, ↓reduceIte, Nat.reduceAdd, Nat.reduceEqDiff, Nat.reduceLeDiff, *]; (try rfl)), by (simp (disch := omega) only [sx, natS, ↓reduceIte, Nat.reduceAdd, Nat.reduceEqDiff, Nat.reduceLeDiff, *]; (try rfl)), by omega, by (simp (disch := omega) only [sx, natS, ↓reduceIte, Nat.reduceAdd, Nat.reduceEqDiff, Nat.reduceLeDiff, *]; (try rfl)), by (simp (disch := omega) only [sx, natS, ↓reduceIte, Nat.reduceAdd, Nat.reduceEqDiff, Nat.reduceLeDiff, *]; (try rfl)), by omega, by omega, by omega, by (first | rfl | (simp (disch := omega) only [sx, natS, ↓reduceIte, Nat.reduceAdd, Nat.reduceEqDiff, Nat.reduceLeDiff, *])), by (first | rfl | (simp (disch := omega) only [sx, natS, ↓reduceIte, Nat.reduceAdd, Nat.reduceEqDiff, Nat.reduceLeDiff, *]))⟩ ?_
  rintro n tm hp nx ⟨k, b1, b3, hnn, hk, g1, gh1, hb1, g3, gh3, hb3, n1, n2, g19, g20⟩
  by_cases hlt : k < 5
  · have e0 : (nums m)[k]? = some ((nums m)[k]'hlt) := List.getElem?_eq_getElem (show k < (nums m).length from hlt)
    have hx := hi.out _ (List.getElem_mem (show k < (nums m).length from hlt))
    generalize (nums m)[k]'hlt = x at e0 hx
    have q4 : ([.ex (.int .i64 m.seq), .ex (.int .i64 m.kind), .ex (.int .i64 m.account), .ex (.int .i64 m.amount), .ex (.int .i64 m.day)] : List AV)[k]? = some (.ex (.int .i64 x)) := by
      have : ([.ex (.int .i64 m.seq), .ex (.int .i64 m.kind), .ex (.int .i64 m.account), .ex (.int .i64 m.amount), .ex (.int .i64 m.day)] : List AV) = (nums m).map fun n => .ex (.int .i64 n) := rfl
      rw [this, List.getElem?_map, e0]; rfl
    have hA := nums_next e0 m.sender
    have q5 : (texts (m.sender :: itoaBs ((nums m).take k))).length = k + 1 := by rw [texts_len, List.length_cons, itoaBs_len, List.length_take]; have : (nums m).length = 5 := rfl; omega
    have c1 := Int_con x hx.1 hx.2
    clear e0 hx hP
    have hk1 : k * 1 = k := Nat.mul_one k
    (repeat' (first | refine awp_seq ?_ | refine awp_block ?_ | (refine awp_ret ?_; simp only [then_ret, block_ret, end_ret]) | ((first | refine call_val (by first | (simp only [sxd, z0, p0, Nat.reduceEqDiff, ↓reduceIte]; (try rfl); done) | (simp (disch := omega) only [sxd, z0, p0, sx, Value.oneCell', ↓reduceIte, Nat.reduceAdd, Nat.reduceMul, Nat.reduceEqDiff, Nat.reduceLT, Nat.reduceLeDiff, Int.reduceToNat, Int.reduceEq, Int.reduceLT, Int.reduceLE, Int.reduceNe, *]; (try rfl); done)) (c1) ?_ | refine vplain ?_ | refine vdraws (by kernel_rfl) ?_ | refine vbuildS (by simp only [tyb, elemOf_s]) (by simp only [tyb, sxb, Value.oneCell', Nat.reduceAdd, Nat.reduceMul, Nat.reduceLeDiff, Nat.reduceLT]) ?_ | refine vcond ?_ | refine awp_exit ?_ | refine awp_skip ?_ | refine And.intro (by first | omega | assumption | exact setOk_ge (by decide +kernel) | exact setOk_late (by decide +kernel) (by (simp (disch := omega) only [sx, Value.oneCell', ↓reduceIte, Nat.reduceAdd, Nat.reduceMul, Nat.reduceEqDiff, Nat.reduceLT, Nat.reduceLeDiff, Int.reduceToNat, Int.reduceEq, Int.reduceLT, Int.reduceLE, Int.reduceNe, natS, *]; rfl)) (by refine wkR_row ?_; repeat' (first | exact trivial | refine wkL_c (by decide +kernel) ?_)) | exact Nat.le_of_ble_eq_true (by kernel_rfl)) ?_ | refine nqif_ways (fun h => ?_) ?_ | ((first | refine gif_ways (fun h => ?_) (fun h => ?_) | refine cif_ways (fun h => ?_) (fun h => ?_)) <;> (try simp only [sxn] at h) <;> (try (exfalso; omega)))) <;> (try (simp (maxSteps := 4000000) (disch := omega) only [sx, Value.oneCell', ↓reduceIte, Nat.reduceAdd, Nat.reduceMul, Nat.reduceEqDiff, Nat.reduceLT, Nat.reduceLeDiff, Int.reduceToNat, Int.reduceEq, Int.reduceLT, Int.reduceLE, Int.reduceNe, *])))))
    exact kround_i (5 - (k + 1)) (by omega) ⟨k + 1, b1, _, by omega, by omega, by (simp (disch := omega) only [sx, natS, ↓reduceIte, Nat.reduceAdd, Nat.reduceEqDiff, Nat.reduceLeDiff, *]; (try rfl)), by (simp (disch := omega) only [sx, natS, ↓reduceIte, Nat.reduceAdd, Nat.reduceEqDiff, Nat.reduceLeDiff, *]; (try rfl)), by omega, by (simp (disch := omega) only [sx, natS, ↓reduceIte, Nat.reduceAdd, Nat.reduceEqDiff, Nat.reduceLeDiff, *]; (try rfl)), by (simp (disch := omega) only [sx, natS, ↓reduceIte, Nat.reduceAdd, Nat.reduceEqDiff, Nat.reduceLeDiff, *]; (try rfl)), by omega, by omega, by omega, by (simp (disch := omega) only [sx, natS, ↓reduceIte, Nat.reduceAdd, Nat.reduceEqDiff, Nat.reduceLeDiff, *]; (try rfl)), by (simp (disch := omega) only [sx, natS, ↓reduceIte, Nat.reduceAdd, Nat.reduceEqDiff, Nat.reduceLeDiff, *]; (try rfl))⟩
  · have hke : (nums m).take k = nums m := List.take_of_length_le (by have : (nums m).length = 5 := rfl; omega)
    rw [hke] at gh3
    have hA := flds_eq m
    have f3 := texts_p0 (fldsM m)
    have f4 := texts_z0 (fldsM m)
    have q5 : (texts (m.sender :: itoaBs (nums m))).length = 6 := by rw [texts_len, List.length_cons, itoaBs_len]; rfl
    have hE : (⟨(packB (fldsM m)).toArray⟩ : ByteArray) = encM m := rfl
    have hk6 : ¬ (k : Int) < 5 := by omega
    (repeat' (first | refine awp_seq ?_ | refine awp_block ?_ | (refine awp_ret ?_; simp only [then_ret, block_ret, end_ret]) | ((first | refine call_val (by first | (simp only [sxd, z0, p0, Nat.reduceEqDiff, ↓reduceIte]; (try rfl); done) | (simp (disch := omega) only [sxd, z0, p0, sx, Value.oneCell', ↓reduceIte, Nat.reduceAdd, Nat.reduceMul, Nat.reduceEqDiff, Nat.reduceLT, Nat.reduceLeDiff, Int.reduceToNat, Int.reduceEq, Int.reduceLT, Int.reduceLE, Int.reduceNe, *]; (try rfl); done)) (hP) ?_ | refine vplain ?_ | refine vdraws (by kernel_rfl) ?_ | refine vbuildS (by simp only [tyb, elemOf_s]) (by simp only [tyb, sxb, Value.oneCell', Nat.reduceAdd, Nat.reduceMul, Nat.reduceLeDiff, Nat.reduceLT]) ?_ | refine vcond ?_ | refine awp_exit ?_ | refine awp_skip ?_ | refine And.intro (by first | omega | assumption | exact setOk_ge (by decide +kernel) | exact setOk_late (by decide +kernel) (by (simp (disch := omega) only [sx, Value.oneCell', ↓reduceIte, Nat.reduceAdd, Nat.reduceMul, Nat.reduceEqDiff, Nat.reduceLT, Nat.reduceLeDiff, Int.reduceToNat, Int.reduceEq, Int.reduceLT, Int.reduceLE, Int.reduceNe, natS, *]; rfl)) (by refine wkR_row ?_; repeat' (first | exact trivial | refine wkL_c (by decide +kernel) ?_)) | exact Nat.le_of_ble_eq_true (by kernel_rfl)) ?_ | refine nqif_ways (fun h => ?_) ?_ | ((first | refine gif_ways (fun h => ?_) (fun h => ?_) | refine cif_ways (fun h => ?_) (fun h => ?_)) <;> (try simp only [sxn] at h) <;> (try (exfalso; omega)))) <;> (try (simp (maxSteps := 4000000) (disch := omega) only [sx, Value.oneCell', ↓reduceIte, Nat.reduceAdd, Nat.reduceMul, Nat.reduceEqDiff, Nat.reduceLT, Nat.reduceLeDiff, Int.reduceToNat, Int.reduceEq, Int.reduceLT, Int.reduceLE, Int.reduceNe, *])))))
    all_goals simp only [sxd, z0, p0, Nat.reduceEqDiff, ↓reduceIte, Tryd.f36, *]
theorem flds_all (m : MsgV) : texts (fldsM m) = [[.ex (.string m.sender)], [.ex (.string ⟨(Lib.itoa m.seq).toArray⟩)], [.ex (.string ⟨(Lib.itoa m.kind).toArray⟩)], [.ex (.string ⟨(Lib.itoa m.account).toArray⟩)], [.ex (.string ⟨(Lib.itoa m.amount).toArray⟩)], [.ex (.string ⟨(Lib.itoa m.day).toArray⟩)], [.ex (.string m.text)]] := rfl
set_option maxHeartbeats 4000000 in
theorem REncode_con (m : MsgV) (h : m.Fit) : Con Tryd.prog CtxP 37 [.agg [.ex (.string m.sender), .ex (.int .i64 m.seq), .ex (.int .i64 m.kind), .ex (.int .i64 m.account), .ex (.int .i64 m.amount), .ex (.int .i64 m.day), .ex (.string m.text)]] (.val (.ex (.string (encM m)))) := by
  have hP := RPack_con (fldsM m) (by have := encM_pk h; omega) (by rw [flds_len]; decide)
  rw [flds_all] at hP
  have hi := h.i
  simp only [nums, List.forall_mem_cons] at hi
  obtain ⟨i1, i2, i3, i4, i5, -⟩ := hi
  have c1 := RInt_con m.seq i1.1 i1.2
  have c2 := RInt_con m.kind i2.1 i2.2
  have c3 := RInt_con m.account i3.1 i3.2
  have c4 := RInt_con m.amount i4.1 i4.2
  have c5 := RInt_con m.day i5.1 i5.2
  have hE : (⟨(packB (fldsM m)).toArray⟩ : ByteArray) = encM m := rfl
  clear h i1 i2 i3 i4 i5
  refine con_val base Tryd.func37 rfl rfl (by kernel_rfl) (Nat.le_of_ble_eq_true rfl) ?_
  rw [init_eq]
  (repeat' (first | refine awp_seq ?_ | refine awp_block ?_ | (refine awp_ret ?_; simp only [then_ret, block_ret, end_ret]) | ((first | refine call_val (by first | (simp only [sxd, z0, p0, Nat.reduceEqDiff, ↓reduceIte]; (try rfl); done) | (simp (disch := omega) only [sxd, z0, p0, sx, Value.oneCell', ↓reduceIte, Nat.reduceAdd, Nat.reduceMul, Nat.reduceEqDiff, Nat.reduceLT, Nat.reduceLeDiff, Int.reduceToNat, Int.reduceEq, Int.reduceLT, Int.reduceLE, Int.reduceNe, *]; (try rfl); done)) (c1) ?_ | refine call_val (by first | (simp only [sxd, z0, p0, Nat.reduceEqDiff, ↓reduceIte]; (try rfl); done) | (simp (disch := omega) only [sxd, z0, p0, sx, Value.oneCell', ↓reduceIte, Nat.reduceAdd, Nat.reduceMul, Nat.reduceEqDiff, Nat.reduceLT, Nat.reduceLeDiff, Int.reduceToNat, Int.reduceEq, Int.reduceLT, Int.reduceLE, Int.reduceNe, *]; (try rfl); done)) (c2) ?_ | refine call_val (by first | (simp only [sxd, z0, p0, Nat.reduceEqDiff, ↓reduceIte]; (try rfl); done) | (simp (disch := omega) only [sxd, z0, p0, sx, Value.oneCell', ↓reduceIte, Nat.reduceAdd, Nat.reduceMul, Nat.reduceEqDiff, Nat.reduceLT, Nat.reduceLeDiff, Int.reduceToNat, Int.reduceEq, Int.reduceLT, Int.reduceLE, Int.reduceNe, *]; (try rfl); done)) (c3) ?_ | refine call_val (by first | (simp only [sxd, z0, p0, Nat.reduceEqDiff, ↓reduceIte]; (try rfl); done) | (simp (disch := omega) only [sxd, z0, p0, sx, Value.oneCell', ↓reduceIte, Nat.reduceAdd, Nat.reduceMul, Nat.reduceEqDiff, Nat.reduceLT, Nat.reduceLeDiff, Int.reduceToNat, Int.reduceEq, Int.reduceLT, Int.reduceLE, Int.reduceNe, *]; (try rfl); done)) (c4) ?_ | refine call_val (by first | (simp only [sxd, z0, p0, Nat.reduceEqDiff, ↓reduceIte]; (try rfl); done) | (simp (disch := omega) only [sxd, z0, p0, sx, Value.oneCell', ↓reduceIte, Nat.reduceAdd, Nat.reduceMul, Nat.reduceEqDiff, Nat.reduceLT, Nat.reduceLeDiff, Int.reduceToNat, Int.reduceEq, Int.reduceLT, Int.reduceLE, Int.reduceNe, *]; (try rfl); done)) (c5) ?_ | refine call_val (by first | (simp only [sxd, z0, p0, Nat.reduceEqDiff, ↓reduceIte]; (try rfl); done) | (simp (disch := omega) only [sxd, z0, p0, sx, Value.oneCell', ↓reduceIte, Nat.reduceAdd, Nat.reduceMul, Nat.reduceEqDiff, Nat.reduceLT, Nat.reduceLeDiff, Int.reduceToNat, Int.reduceEq, Int.reduceLT, Int.reduceLE, Int.reduceNe, *]; (try rfl); done)) (hP) ?_ | refine vplain ?_ | refine vdraws (by kernel_rfl) ?_ | refine vbuildS (by simp only [tyb, elemOf_s]) (by simp only [tyb, sxb, Value.oneCell', Nat.reduceAdd, Nat.reduceMul, Nat.reduceLeDiff, Nat.reduceLT]) ?_ | refine vcond ?_ | refine awp_exit ?_ | refine awp_skip ?_ | refine And.intro (by first | omega | assumption | exact setOk_ge (by decide +kernel) | exact setOk_late (by decide +kernel) (by (simp (disch := omega) only [sx, Value.oneCell', ↓reduceIte, Nat.reduceAdd, Nat.reduceMul, Nat.reduceEqDiff, Nat.reduceLT, Nat.reduceLeDiff, Int.reduceToNat, Int.reduceEq, Int.reduceLT, Int.reduceLE, Int.reduceNe, natS, *]; rfl)) (by refine wkR_row ?_; repeat' (first | exact trivial | refine wkL_c (by decide +kernel) ?_)) | exact Nat.le_of_ble_eq_true (by kernel_rfl)) ?_ | refine nqif_ways (fun h => ?_) ?_ | ((first | refine gif_ways (fun h => ?_) (fun h => ?_) | refine cif_ways (fun h => ?_) (fun h => ?_)) <;> (try simp only [sxn] at h) <;> (try (exfalso; omega)))) <;> (try (simp (disch := omega) only [sx, Value.oneCell', ↓reduceIte, Nat.reduceAdd, Nat.reduceMul, Nat.reduceEqDiff, Nat.reduceLT, Nat.reduceLeDiff, Int.reduceToNat, Int.reduceEq, Int.reduceLT, Int.reduceLE, Int.reduceNe, *])))))
  all_goals simp only [sxd, z0, p0, Nat.reduceEqDiff, ↓reduceIte, Tryd.f37, *]
end Go.Proofs.YtfpknhhhjgdjbaaDoor
