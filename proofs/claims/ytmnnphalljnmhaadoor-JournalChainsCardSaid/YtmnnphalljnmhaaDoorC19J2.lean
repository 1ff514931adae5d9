/-
  Chapter 19, walked: the reference's sums. Conditions: those that each theorem states.
-/
import Derived.Test.YtmnnphalljnmhaaDoorC19J
namespace Go.Proofs.YtmnnphalljnmhaaDoor
open Go.RowKit
set_option maxRecDepth 100000
set_option linter.unusedSimpArgs false

set_option maxHeartbeats 4000000 in
theorem RSums_con (l : List LegV) (hl : l.length ≤ 1000) (hw : ∀ x ∈ l, In64 x.amount) : Con Tryd.prog CtxP 40 [.sl (legsC l)] (.fresh 60 (monsC (sumsL l))) := by
  refine con_fresh base Tryd.func40 rfl rfl (by kernel_rfl) (Nat.le_of_ble_eq_true rfl) ?_
  rw [init_eq]
  have q1 := legs_len l
  (repeat' (first | refine awp_seq ?_ | refine awp_block ?_ | (refine awp_ret ?_; simp only [then_ret, block_ret, end_ret]) | ((first | refine vplain ?_ | refine vdraws (by kernel_rfl) ?_ | refine vbuildS (by simp only [tyb, elemOf_s]) (by simp only [tyb, sxb, Value.oneCell', Nat.reduceAdd, Nat.reduceMul, Nat.reduceLeDiff, Nat.reduceLT]) ?_ | refine vcond ?_ | refine awp_exit ?_ | refine awp_skip ?_ | refine And.intro (by first | omega | assumption | exact setOk_ge (by decide +kernel)) ?_ | refine nqif_ways (fun h => ?_) ?_ | ((first | refine gif_ways (fun h => ?_) (fun h => ?_) | refine cif_ways (fun h => ?_) (fun h => ?_)) <;> (try simp only [sxn] at h) <;> (try (exfalso; omega)))) <;> (try (simp (disch := omega) only [sx, Value.oneCell', ↓reduceIte, Nat.reduceAdd, Nat.reduceMul, Nat.reduceEqDiff, Nat.reduceLT, Nat.reduceLeDiff, Int.reduceToNat, Int.reduceEq, Int.reduceLT, Int.reduceLE, Int.reduceNe, *])))))
  refine vloop (fun n tm hp nx => ∃ (k b : Nat) (O : List MonV), n = l.length - k ∧ k ≤ l.length ∧ tm 0 = .sl (legsC l) ∧ tm 4 = .ex (.int .i64 k) ∧ tm 3 = .own b ∧ hp b = some ⟨60, monsC O, true⟩ ∧ b < nx ∧ Hid (O = sumsL (l.take k))) l.length ⟨0, _, [], rfl, Nat.zero_le _, by (first | rfl | (simp (disch := omega) only [sx, natS, ↓reduceIte, Nat.reduceAdd, Nat.reduceEqDiff, Nat.reduceLeDiff, *])), by (first | rfl | (simp (disch := omega) only [sx, natS, ↓reduceIte, Nat.reduceAdd, Nat.reduceEqDiff, Nat.reduceLeDiff, *])), by (first | rfl | (simp (disch := omega) only [sx, natS, ↓reduceIte, Nat.reduceAdd, Nat.reduceEqDiff, Nat.reduceLeDiff, *])), by (simp (disch := omega) only [sx, natS, ↓reduceIte, Nat.reduceAdd, Nat.reduceEqDiff, Nat.reduceLeDiff, *]; (try rfl)), by omega, Lib.hid rfl⟩ ?_
  rintro n tm hp nx ⟨k, b, O, hn, hk, g0, g4, g3, gh, hb, hO⟩
  by_cases hlt : k < l.length
  · have e0 : l[k]? = some l[k] := List.getElem?_eq_getElem hlt
    have hx := hw _ (List.getElem_mem hlt)
    generalize l[k] = x at e0 hx
    have hOl : O.length ≤ k := by rw [hO.out]; have := sumsL_len (l.take k); rw [List.length_take] at this; omega
    have n1 : Hid (addM O x.cur x.amount = sumsL (l.take (k + 1))) := Lib.hid (by rw [sums_step e0, ← hO.out])
    have q4 := legs_get e0
    have hm1 := mI_le O x.cur
    have hml := mons_len O
    have f1 := mons_all O
    have f3 := mons_z0 O
    clear hO e0
    obtain ⟨I, hI⟩ : ∃ I, mI O x.cur = I := ⟨_, rfl⟩
    rw [hI] at hm1
    (repeat' (first | refine awp_seq ?_ | refine awp_block ?_ | (refine awp_ret ?_; simp only [then_ret, block_ret, end_ret]) | ((first | refine vplain ?_ | refine vdraws (by kernel_rfl) ?_ | refine vbuildS (by simp only [tyb, elemOf_s]) (by simp only [tyb, sxb, Value.oneCell', Nat.reduceAdd, Nat.reduceMul, Nat.reduceLeDiff, Nat.reduceLT]) ?_ | refine vcond ?_ | refine awp_exit ?_ | refine awp_skip ?_ | refine And.intro (by first | omega | assumption | exact setOk_ge (by decide +kernel)) ?_ | refine nqif_ways (fun h => ?_) ?_ | ((first | refine gif_ways (fun h => ?_) (fun h => ?_) | refine cif_ways (fun h => ?_) (fun h => ?_)) <;> (try simp only [sxn] at h) <;> (try (exfalso; omega)))) <;> (try (simp (disch := omega) only [sx, Value.oneCell', ↓reduceIte, Nat.reduceAdd, Nat.reduceMul, Nat.reduceEqDiff, Nat.reduceLT, Nat.reduceLeDiff, Int.reduceToNat, Int.reduceEq, Int.reduceLT, Int.reduceLE, Int.reduceNe, *])))))
    refine vloop (fun n tm hp nx => ∃ (j b b5 : Nat), n = I - j ∧ j ≤ I ∧ tm 0 = .sl (legsC l) ∧ tm 4 = .ex (.int .i64 k) ∧ tm 3 = .own b ∧ hp b = some ⟨60, monsC O, true⟩ ∧ b < nx ∧ tm 5 = .own b5 ∧ hp b5 = some ⟨60, [], true⟩ ∧ b5 < nx ∧ ¬ b = b5 ∧ ¬ b5 = b ∧ tm 6 = .ex (.int .i64 j)) I ⟨0, b, _, rfl, Nat.zero_le _, by (first | rfl | (simp (disch := omega) only [sx, natS, ↓reduceIte, Nat.reduceAdd, Nat.reduceEqDiff, Nat.reduceLeDiff, *])), by (first | rfl | (simp (disch := omega) only [sx, natS, ↓reduceIte, Nat.reduceAdd, Nat.reduceEqDiff, Nat.reduceLeDiff, *])), by (first | rfl | (simp (disch := omega) only [sx, natS, ↓reduceIte, Nat.reduceAdd, Nat.reduceEqDiff, Nat.reduceLeDiff, *])), by (first | rfl | (simp (disch := omega) only [sx, natS, ↓reduceIte, Nat.reduceAdd, Nat.reduceEqDiff, Nat.reduceLeDiff, *])), by omega, by (first | rfl | (simp (disch := omega) only [sx, natS, ↓reduceIte, Nat.reduceAdd, Nat.reduceEqDiff, Nat.reduceLeDiff, *])), by (simp (disch := omega) only [sx, natS, ↓reduceIte, Nat.reduceAdd, Nat.reduceEqDiff, Nat.reduceLeDiff, *]; (try rfl)), by omega, by omega, by omega, by (first | rfl | (simp (disch := omega) only [sx, natS, ↓reduceIte, Nat.reduceAdd, Nat.reduceEqDiff, Nat.reduceLeDiff, *]))⟩ ?_
    clear g0 g4 g3 gh hb
    rintro n2 tm hp nx ⟨j, b, b5, hn2, hj, g0, g4, g3, gh, hb, g5, gh5, hb5, hne, hne2, g6⟩
    by_cases hj2 : j < I
    · have e1 : O[j]? = some O[j] := List.getElem?_eq_getElem (by omega)
      generalize O[j] = m at e1
      have q5 := mons_get e1
      have hbl := mI_lt (s := x.cur) (by rw [hI]; exact hj2) e1
      clear e1 hI
      (repeat' (first | refine awp_seq ?_ | refine awp_block ?_ | (refine awp_ret ?_; simp only [then_ret, block_ret, end_ret]) | ((first | refine vplain ?_ | refine vdraws (by kernel_rfl) ?_ | refine vbuildS (by simp only [tyb, elemOf_s]) (by simp only [tyb, sxb, Value.oneCell', Nat.reduceAdd, Nat.reduceMul, Nat.reduceLeDiff, Nat.reduceLT]) ?_ | refine vcond ?_ | refine awp_exit ?_ | refine awp_skip ?_ | refine And.intro (by first | omega | assumption | exact setOk_ge (by decide +kernel)) ?_ | refine nqif_ways (fun h => ?_) ?_ | ((first | refine gif_ways (fun h => ?_) (fun h => ?_) | refine cif_ways (fun h => ?_) (fun h => ?_)) <;> (try simp only [sxn] at h) <;> (try (exfalso; omega)))) <;> (try (simp (disch := omega) only [sx, Value.oneCell', ↓reduceIte, Nat.reduceAdd, Nat.reduceMul, Nat.reduceEqDiff, Nat.reduceLT, Nat.reduceLeDiff, Int.reduceToNat, Int.reduceEq, Int.reduceLT, Int.reduceLE, Int.reduceNe, *])))))
      exact kround_i (I - (j + 1)) (by omega) ⟨j + 1, b, b5, rfl, by omega, by (first | rfl | (simp (disch := omega) only [sx, natS, ↓reduceIte, Nat.reduceAdd, Nat.reduceEqDiff, Nat.reduceLeDiff, *])), by (first | rfl | (simp (disch := omega) only [sx, natS, ↓reduceIte, Nat.reduceAdd, Nat.reduceEqDiff, Nat.reduceLeDiff, *])), by (first | rfl | (simp (disch := omega) only [sx, natS, ↓reduceIte, Nat.reduceAdd, Nat.reduceEqDiff, Nat.reduceLeDiff, *])), by (first | rfl | (simp (disch := omega) only [sx, natS, ↓reduceIte, Nat.reduceAdd, Nat.reduceEqDiff, Nat.reduceLeDiff, *])), by omega, by (first | rfl | (simp (disch := omega) only [sx, natS, ↓reduceIte, Nat.reduceAdd, Nat.reduceEqDiff, Nat.reduceLeDiff, *])), by (first | rfl | (simp (disch := omega) only [sx, natS, ↓reduceIte, Nat.reduceAdd, Nat.reduceEqDiff, Nat.reduceLeDiff, *])), by omega, hne, hne2, by (first | rfl | (simp (disch := omega) only [sx, natS, ↓reduceIte, Nat.reduceAdd, Nat.reduceEqDiff, Nat.reduceLeDiff, *]))⟩
    · have hje : I = j := by omega
      subst hje
      by_cases hend : I < O.length
      · have e1 : O[I]? = some O[I] := List.getElem?_eq_getElem hend
        generalize O[I] = m at e1
        have q5 := mons_get e1
        have hbl := mI_stop hI e1
        by_cases hc : m.cur = x.cur
        · have hA := addM_t2 (a := x.amount) hI e1 hc
          have hd := decide_eq_true hc
          clear hc e1 hI
          have t1 := take_n hml hm1
          have t2 := take_w (mons_two O) I
          have t3 := drop_w (mons_two O) (I + 1)
          have t4 := drop_n (i := (I + 1)) hml
          have t6 : ((I : Int) + 1).toNat = I + 1 := by omega
          have t7 : (monsC O).take O.length = monsC O := List.take_of_length_le (by omega)
          have t5 := take_n1 hml hm1 [.ex (.string x.cur), .ex (.int .i64 (IntKind.i64.wrap (x.amount + m.amount)))]
          (repeat' (first | refine awp_seq ?_ | refine awp_block ?_ | (refine awp_ret ?_; simp only [then_ret, block_ret, end_ret]) | ((first | refine slice_frz (by first | assumption | (simp (disch := omega) only [sx, natS, ↓reduceIte, Nat.reduceAdd, Nat.reduceEqDiff, Nat.reduceLeDiff, *]; (try rfl))) (by simp only [tyb]) (by first | (simp only [tyb]; done) | (simp only [tyb]; decide)) (by first | assumption | rfl) (by first | assumption | rfl) ?_ | refine vplain ?_ | refine vdraws (by kernel_rfl) ?_ | refine vbuildS (by simp only [tyb, elemOf_s]) (by simp only [tyb, sxb, Value.oneCell', Nat.reduceAdd, Nat.reduceMul, Nat.reduceLeDiff, Nat.reduceLT]) ?_ | refine vcond ?_ | refine awp_exit ?_ | refine awp_skip ?_ | refine And.intro (by first | omega | assumption | exact setOk_ge (by decide +kernel)) ?_ | refine nqif_ways (fun h => ?_) ?_ | ((first | refine gif_ways (fun h => ?_) (fun h => ?_) | refine cif_ways (fun h => ?_) (fun h => ?_)) <;> (try simp only [sxn] at h) <;> (try (exfalso; omega)))) <;> (try (simp (disch := omega) only [sx, Value.oneCell', ↓reduceIte, Nat.reduceAdd, Nat.reduceMul, Nat.reduceEqDiff, Nat.reduceLT, Nat.reduceLeDiff, Int.reduceToNat, Int.reduceEq, Int.reduceLT, Int.reduceLE, Int.reduceNe, *])))))
          exact kround_i (l.length - (k + 1)) (by omega) ⟨k + 1, _, addM O x.cur x.amount, rfl, by omega, by (first | rfl | (simp (disch := omega) only [sx, natS, ↓reduceIte, Nat.reduceAdd, Nat.reduceEqDiff, Nat.reduceLeDiff, *])), by (first | rfl | (simp (disch := omega) only [sx, natS, ↓reduceIte, Nat.reduceAdd, Nat.reduceEqDiff, Nat.reduceLeDiff, *])), by (first | rfl | (simp (disch := omega) only [sx, natS, ↓reduceIte, Nat.reduceAdd, Nat.reduceEqDiff, Nat.reduceLeDiff, *])), by (simp (disch := omega) only [sx, natS, ↓reduceIte, Nat.reduceAdd, Nat.reduceEqDiff, Nat.reduceLeDiff, *]; (try rfl)), by omega, n1⟩
        · have hA := addM_f2 (a := x.amount) (by rw [mB_at hI e1]; exact decide_eq_false hc) hI hx
          have hd := decide_eq_false hc
          clear hc e1 hI
          have t1 := take_n hml hm1
          have t2 := take_w (mons_two O) I
          have t3 := drop_w (mons_two O) I
          have t4 := drop_n (i := I) hml
          have t6 : ((I : Int) + 1).toNat = I + 1 := by omega
          have t7 : (monsC O).take O.length = monsC O := List.take_of_length_le (by omega)
          have t5 := take_n1 hml hm1 [.ex (.string x.cur), .ex (.int .i64 x.amount)]
          (repeat' (first | refine awp_seq ?_ | refine awp_block ?_ | (refine awp_ret ?_; simp only [then_ret, block_ret, end_ret]) | ((first | refine slice_frz (by first | assumption | (simp (disch := omega) only [sx, natS, ↓reduceIte, Nat.reduceAdd, Nat.reduceEqDiff, Nat.reduceLeDiff, *]; (try rfl))) (by simp only [tyb]) (by first | (simp only [tyb]; done) | (simp only [tyb]; decide)) (by first | assumption | rfl) (by first | assumption | rfl) ?_ | refine vplain ?_ | refine vdraws (by kernel_rfl) ?_ | refine vbuildS (by simp only [tyb, elemOf_s]) (by simp only [tyb, sxb, Value.oneCell', Nat.reduceAdd, Nat.reduceMul, Nat.reduceLeDiff, Nat.reduceLT]) ?_ | refine vcond ?_ | refine awp_exit ?_ | refine awp_skip ?_ | refine And.intro (by first | omega | assumption | exact setOk_ge (by decide +kernel)) ?_ | refine nqif_ways (fun h => ?_) ?_ | ((first | refine gif_ways (fun h => ?_) (fun h => ?_) | refine cif_ways (fun h => ?_) (fun h => ?_)) <;> (try simp only [sxn] at h) <;> (try (exfalso; omega)))) <;> (try (simp (disch := omega) only [sx, Value.oneCell', ↓reduceIte, Nat.reduceAdd, Nat.reduceMul, Nat.reduceEqDiff, Nat.reduceLT, Nat.reduceLeDiff, Int.reduceToNat, Int.reduceEq, Int.reduceLT, Int.reduceLE, Int.reduceNe, *])))))
          exact kround_i (l.length - (k + 1)) (by omega) ⟨k + 1, _, addM O x.cur x.amount, rfl, by omega, by (first | rfl | (simp (disch := omega) only [sx, natS, ↓reduceIte, Nat.reduceAdd, Nat.reduceEqDiff, Nat.reduceLeDiff, *])), by (first | rfl | (simp (disch := omega) only [sx, natS, ↓reduceIte, Nat.reduceAdd, Nat.reduceEqDiff, Nat.reduceLeDiff, *])), by (first | rfl | (simp (disch := omega) only [sx, natS, ↓reduceIte, Nat.reduceAdd, Nat.reduceEqDiff, Nat.reduceLeDiff, *])), by (simp (disch := omega) only [sx, natS, ↓reduceIte, Nat.reduceAdd, Nat.reduceEqDiff, Nat.reduceLeDiff, *]; (try rfl)), by omega, n1⟩
      · have hA := addM_f2 (a := x.amount) (mB_end hI (by omega)) hI hx
        clear hI
        have t1 := take_n hml hm1
        have t2 := take_w (mons_two O) I
        have t3 := drop_w (mons_two O) I
        have t4 := drop_n (i := I) hml
        have t6 : ((I : Int) + 1).toNat = I + 1 := by omega
        have t7 : (monsC O).take O.length = monsC O := List.take_of_length_le (by omega)
        have t5 := take_n1 hml hm1 [.ex (.string x.cur), .ex (.int .i64 x.amount)]
        (repeat' (first | refine awp_seq ?_ | refine awp_block ?_ | (refine awp_ret ?_; simp only [then_ret, block_ret, end_ret]) | ((first | refine slice_frz (by first | assumption | (simp (disch := omega) only [sx, natS, ↓reduceIte, Nat.reduceAdd, Nat.reduceEqDiff, Nat.reduceLeDiff, *]; (try rfl))) (by simp only [tyb]) (by first | (simp only [tyb]; done) | (simp only [tyb]; decide)) (by first | assumption | rfl) (by first | assumption | rfl) ?_ | refine vplain ?_ | refine vdraws (by kernel_rfl) ?_ | refine vbuildS (by simp only [tyb, elemOf_s]) (by simp only [tyb, sxb, Value.oneCell', Nat.reduceAdd, Nat.reduceMul, Nat.reduceLeDiff, Nat.reduceLT]) ?_ | refine vcond ?_ | refine awp_exit ?_ | refine awp_skip ?_ | refine And.intro (by first | omega | assumption | exact setOk_ge (by decide +kernel)) ?_ | refine nqif_ways (fun h => ?_) ?_ | ((first | refine gif_ways (fun h => ?_) (fun h => ?_) | refine cif_ways (fun h => ?_) (fun h => ?_)) <;> (try simp only [sxn] at h) <;> (try (exfalso; omega)))) <;> (try (simp (disch := omega) only [sx, Value.oneCell', ↓reduceIte, Nat.reduceAdd, Nat.reduceMul, Nat.reduceEqDiff, Nat.reduceLT, Nat.reduceLeDiff, Int.reduceToNat, Int.reduceEq, Int.reduceLT, Int.reduceLE, Int.reduceNe, *])))))
        exact kround_i (l.length - (k + 1)) (by omega) ⟨k + 1, _, addM O x.cur x.amount, rfl, by omega, by (first | rfl | (simp (disch := omega) only [sx, natS, ↓reduceIte, Nat.reduceAdd, Nat.reduceEqDiff, Nat.reduceLeDiff, *])), by (first | rfl | (simp (disch := omega) only [sx, natS, ↓reduceIte, Nat.reduceAdd, Nat.reduceEqDiff, Nat.reduceLeDiff, *])), by (first | rfl | (simp (disch := omega) only [sx, natS, ↓reduceIte, Nat.reduceAdd, Nat.reduceEqDiff, Nat.reduceLeDiff, *])), by (simp (disch := omega) only [sx, natS, ↓reduceIte, Nat.reduceAdd, Nat.reduceEqDiff, Nat.reduceLeDiff, *]; (try rfl)), by omega, n1⟩
  · have hOe : O = sumsL l := by rw [hO.out, List.take_of_length_le (by omega)]
    subst hOe
    have f1 := mons_all (sumsL l)
    have f3 := mons_z0 (sumsL l)
    (repeat' (first | refine awp_seq ?_ | refine awp_block ?_ | (refine awp_ret ?_; simp only [then_ret, block_ret, end_ret]) | ((first | refine vplain ?_ | refine vdraws (by kernel_rfl) ?_ | refine vbuildS (by simp only [tyb, elemOf_s]) (by simp only [tyb, sxb, Value.oneCell', Nat.reduceAdd, Nat.reduceMul, Nat.reduceLeDiff, Nat.reduceLT]) ?_ | refine vcond ?_ | refine awp_exit ?_ | refine awp_skip ?_ | refine And.intro (by first | omega | assumption | exact setOk_ge (by decide +kernel)) ?_ | refine nqif_ways (fun h => ?_) ?_ | ((first | refine gif_ways (fun h => ?_) (fun h => ?_) | refine cif_ways (fun h => ?_) (fun h => ?_)) <;> (try simp only [sxn] at h) <;> (try (exfalso; omega)))) <;> (try (simp (disch := omega) only [sx, Value.oneCell', ↓reduceIte, Nat.reduceAdd, Nat.reduceMul, Nat.reduceEqDiff, Nat.reduceLT, Nat.reduceLeDiff, Int.reduceToNat, Int.reduceEq, Int.reduceLT, Int.reduceLE, Int.reduceNe, *])))))
    all_goals simp only [sxd, z0, p0, Nat.reduceEqDiff, ↓reduceIte, Tryd.f40, *]
end Go.Proofs.YtmnnphalljnmhaaDoor
