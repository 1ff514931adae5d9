/-
  Chapter 19, walked: the sums of currencies, the program's. Conditions: those that each theorem states.
-/
import Derived.Test.YtmnnphalljnmhaaDoorC19C
namespace Go.Proofs.YtmnnphalljnmhaaDoor
open Go.RowKit
set_option maxRecDepth 100000
set_option linter.unusedSimpArgs false

theorem mons_all (l : List MonV) : ((monsC l).all (·.all p0)) = true := by
  rw [List.all_eq_true]
  intro r hr
  obtain ⟨x, _, rfl⟩ := List.mem_map.1 hr
  rfl
theorem mons_ns (l : List MonV) : ((monsC l).all (·.all noSl0)) = true := by
  rw [List.all_eq_true]
  intro r hr
  obtain ⟨x, _, rfl⟩ := List.mem_map.1 hr
  rfl
theorem mons_z0 (l : List MonV) : (monsC l).map (·.map z0) = monsC l := by
  rw [monsC, List.map_map]; exact List.map_congr_left fun _ _ => rfl
theorem legs_all (l : List LegV) : ((legsC l).all (·.all p0)) = true := by
  rw [List.all_eq_true]
  intro r hr
  obtain ⟨x, _, rfl⟩ := List.mem_map.1 hr
  rfl
theorem legs_ns (l : List LegV) : ((legsC l).all (·.all noSl0)) = true := by
  rw [List.all_eq_true]
  intro r hr
  obtain ⟨x, _, rfl⟩ := List.mem_map.1 hr
  rfl
theorem legs_z0 (l : List LegV) : (legsC l).map (·.map z0) = legsC l := by
  rw [legsC, List.map_map]; exact List.map_congr_left fun _ _ => rfl
theorem sums_step {l : List LegV} {k : Nat} {x : LegV} (e : l[k]? = some x) : sumsL (l.take (k + 1)) = addM (sumsL (l.take k)) x.cur x.amount := by
  unfold sumsL
  rw [List.take_add_one, e, List.foldl_append]; rfl
theorem sums_sort : ∀ (l : List LegV) (o : List MonV), SortM o → SortM (l.foldl (fun o x => addM o x.cur x.amount) o)
  | [], _, h => h
  | x :: l, _, h => sums_sort l _ (addM_sort h x.cur x.amount)
theorem sumsL_sort (l : List LegV) : SortM (sumsL l) := sums_sort l [] (fun i j a b _ h => by cases h)
theorem sums_len : ∀ (l : List LegV) (o : List MonV), (l.foldl (fun o x => addM o x.cur x.amount) o).length ≤ o.length + l.length
  | [], _ => Nat.le_refl _
  | x :: l, o => by
    have h1 := sums_len l (addM o x.cur x.amount)
    have h2 := addM_len o x.cur x.amount
    rw [List.foldl_cons, List.length_cons]; omega
theorem sumsL_len (l : List LegV) : (sumsL l).length ≤ l.length := by have := sums_len l []; simpa [sumsL] using this
theorem addM_t {l : List MonV} {s : ByteArray} {a : Int} {i : Nat} {m : MonV} (hb : mB l s = true) (hi : mI l s = i) (e : l[i]? = some m) :
    monsC (addM l s a) = (monsC l).set i [.ex (.string m.cur), .ex (.int .i64 (IntKind.i64.wrap (m.amount + a)))] := by
  obtain ⟨m', e', hc⟩ := mB_true hb
  rw [hi, e] at e'
  cases e'
  unfold addM
  rw [if_pos hb, hi, e, monsC, List.map_set, hc]; rfl
theorem addM_f {l : List MonV} {s : ByteArray} {a : Int} {i : Nat} (hb : mB l s = false) (hi : mI l s = i) :
    monsC (addM l s a) = ((monsC l).take i ++ [.ex (.string s), .ex (.int .i64 0)] :: (monsC l).drop i).set i [.ex (.string s), .ex (.int .i64 (IntKind.i64.wrap (0 + a)))] := by
  have hle : i ≤ (monsC l).length := by rw [mons_len, ← hi]; exact mI_le l s
  unfold addM
  rw [if_neg (by rw [hb]; simp), hi, List.set_append_right _ _ (by rw [List.length_take]; omega), List.length_take, Nat.min_eq_left hle, Nat.sub_self, List.set_cons_zero]
  unfold monsC
  rw [List.map_append, List.map_cons, List.map_take, List.map_drop]; rfl
theorem Sums_con (l : List LegV) (hl : l.length ≤ 1000) : Con Tryd.prog CtxP 39 [.sl (legsC l)] (.fresh 60 (monsC (sumsL l))) := by
  refine con_fresh base Tryd.func39 rfl rfl (by kernel_rfl) (Nat.le_of_ble_eq_true rfl) ?_
  rw [init_eq]
  have q1 := legs_len l
  (repeat' (first | refine awp_seq ?_ | refine awp_block ?_ | (refine awp_ret ?_; simp only [then_ret, block_ret, end_ret]) | ((first | refine vplain ?_ | refine vdraws (by kernel_rfl) ?_ | refine vbuildS (by simp only [tyb, elemOf_s]) (by simp only [tyb, sxb, Value.oneCell', Nat.reduceAdd, Nat.reduceMul, Nat.reduceLeDiff, Nat.reduceLT]) ?_ | refine vcond ?_ | refine awp_exit ?_ | refine awp_skip ?_ | refine And.intro (by first | omega | assumption | exact setOk_ge (by decide +kernel) | exact setOk_late (by decide +kernel) (by (simp (disch := omega) only [sx, Value.oneCell', ↓reduceIte, Nat.reduceAdd, Nat.reduceMul, Nat.reduceEqDiff, Nat.reduceLT, Nat.reduceLeDiff, Int.reduceToNat, Int.reduceEq, Int.reduceLT, Int.reduceLE, Int.reduceNe, natS, *]; rfl)) (by refine wkR_row ?_; repeat' (first | exact trivial | refine wkL_c (by decide +kernel) ?_)) | exact Nat.le_of_ble_eq_true (by kernel_rfl)) ?_ | refine nqif_ways (fun h => ?_) ?_ | ((first | refine gif_ways (fun h => ?_) (fun h => ?_) | refine cif_ways (fun h => ?_) (fun h => ?_)) <;> (try simp only [sxn] at h) <;> (try (exfalso; omega)))) <;> (try (simp (disch := omega) only [sx, Value.oneCell', ↓reduceIte, Nat.reduceAdd, Nat.reduceMul, Nat.reduceEqDiff, Nat.reduceLT, Nat.reduceLeDiff, Int.reduceToNat, Int.reduceEq, Int.reduceLT, Int.reduceLE, Int.reduceNe, *])))))
  refine vloop (fun n tm hp nx => ∃ (k b : Nat) (O : List MonV), n = l.length - k ∧ k ≤ l.length ∧ tm 8 = .sl (legsC l) ∧ tm 9 = .ex (.int .i64 l.length) ∧ tm 10 = .ex (.int .i64 k) ∧ tm 3 = .own b ∧ hp b = some ⟨60, monsC O, true⟩ ∧ b < nx ∧ Hid (O = sumsL (l.take k))) l.length ⟨0, _, [], rfl, Nat.zero_le _, by (first | rfl | (simp (disch := omega) only [sx, natS, ↓reduceIte, Nat.reduceAdd, Nat.reduceEqDiff, Nat.reduceLeDiff, *])), by (first | rfl | (simp (disch := omega) only [sx, natS, ↓reduceIte, Nat.reduceAdd, Nat.reduceEqDiff, Nat.reduceLeDiff, *])), by (first | rfl | (simp (disch := omega) only [sx, natS, ↓reduceIte, Nat.reduceAdd, Nat.reduceEqDiff, Nat.reduceLeDiff, *])), by (first | rfl | (simp (disch := omega) only [sx, natS, ↓reduceIte, Nat.reduceAdd, Nat.reduceEqDiff, Nat.reduceLeDiff, *])), by (simp (disch := omega) only [sx, natS, ↓reduceIte, Nat.reduceAdd, Nat.reduceEqDiff, Nat.reduceLeDiff, *]; (try rfl)), by omega, Lib.hid rfl⟩ ?_
  rintro n tm hp nx ⟨k, b, O, hn, hk, g8, g9, g10, g3, gh, hb, hO⟩
  by_cases hlt : k < l.length
  · have e0 : l[k]? = some l[k] := List.getElem?_eq_getElem hlt
    generalize l[k] = x at e0
    have hs : SortM O := hO.out ▸ sumsL_sort _
    have hOl : O.length ≤ k := by rw [hO.out]; have := sumsL_len (l.take k); rw [List.length_take] at this; omega
    have n1 : Hid (addM O x.cur x.amount = sumsL (l.take (k + 1))) := Lib.hid (by rw [sums_step e0, ← hO.out])
    have q4 := legs_get e0
    have hBS := BSMoney_con O x.cur (by omega) (hs.mono x.cur)
    have hm1 := mI_le O x.cur
    have hml := mons_len O
    have f1 := mons_all O
    have f3 := mons_z0 O
    clear hs hO e0
    cases hmb : mB O x.cur with
    | true =>
      obtain ⟨m, em, hc⟩ := mB_true hmb
      have hmt := addM_t (a := x.amount) hmb rfl em
      unfold mB at hmb
      rw [hmb] at hBS
      unfold mI at hmt em hm1
      generalize bsI (fun m : MonV => ltS m.cur x.cur) O = i at hBS hmt em hm1
      have hil : i < O.length := (List.getElem?_eq_some_iff.1 em).1
      have hA := hmt.symm
      have q5 := mons_get em
      rw [hc] at hA q5
      clear hmt em hmb hc
      (repeat' (first | refine awp_seq ?_ | refine awp_block ?_ | (refine awp_ret ?_; simp only [then_ret, block_ret, end_ret]) | ((first | refine call_val (by first | (simp only [sxd, z0, p0, Nat.reduceEqDiff, ↓reduceIte]; (try rfl); done) | (simp (disch := omega) only [sxd, z0, p0, sx, Value.oneCell', ↓reduceIte, Nat.reduceAdd, Nat.reduceMul, Nat.reduceEqDiff, Nat.reduceLT, Nat.reduceLeDiff, Int.reduceToNat, Int.reduceEq, Int.reduceLT, Int.reduceLE, Int.reduceNe, *]; (try rfl); done)) (hBS) ?_ | refine vplain ?_ | refine vdraws (by kernel_rfl) ?_ | refine vbuildS (by simp only [tyb, elemOf_s]) (by simp only [tyb, sxb, Value.oneCell', Nat.reduceAdd, Nat.reduceMul, Nat.reduceLeDiff, Nat.reduceLT]) ?_ | refine vcond ?_ | refine awp_exit ?_ | refine awp_skip ?_ | refine And.intro (by first | omega | assumption | exact setOk_ge (by decide +kernel) | exact setOk_late (by decide +kernel) (by (simp (disch := omega) only [sx, Value.oneCell', ↓reduceIte, Nat.reduceAdd, Nat.reduceMul, Nat.reduceEqDiff, Nat.reduceLT, Nat.reduceLeDiff, Int.reduceToNat, Int.reduceEq, Int.reduceLT, Int.reduceLE, Int.reduceNe, natS, *]; rfl)) (by refine wkR_row ?_; repeat' (first | exact trivial | refine wkL_c (by decide +kernel) ?_)) | exact Nat.le_of_ble_eq_true (by kernel_rfl)) ?_ | refine nqif_ways (fun h => ?_) ?_ | ((first | refine gif_ways (fun h => ?_) (fun h => ?_) | refine cif_ways (fun h => ?_) (fun h => ?_)) <;> (try simp only [sxn] at h) <;> (try (exfalso; omega)))) <;> (try (simp (disch := omega) only [sx, Value.oneCell', ↓reduceIte, Nat.reduceAdd, Nat.reduceMul, Nat.reduceEqDiff, Nat.reduceLT, Nat.reduceLeDiff, Int.reduceToNat, Int.reduceEq, Int.reduceLT, Int.reduceLE, Int.reduceNe, *])))))
      exact kround_i (l.length - (k + 1)) (by omega) ⟨k + 1, b, addM O x.cur x.amount, rfl, by omega, by (first | rfl | (simp (disch := omega) only [sx, natS, ↓reduceIte, Nat.reduceAdd, Nat.reduceEqDiff, Nat.reduceLeDiff, *])), by (first | rfl | (simp (disch := omega) only [sx, natS, ↓reduceIte, Nat.reduceAdd, Nat.reduceEqDiff, Nat.reduceLeDiff, *])), by (first | rfl | (simp (disch := omega) only [sx, natS, ↓reduceIte, Nat.reduceAdd, Nat.reduceEqDiff, Nat.reduceLeDiff, *])), by (first | rfl | (simp (disch := omega) only [sx, natS, ↓reduceIte, Nat.reduceAdd, Nat.reduceEqDiff, Nat.reduceLeDiff, *])), by (first | rfl | (simp (disch := omega) only [sx, natS, ↓reduceIte, Nat.reduceAdd, Nat.reduceEqDiff, Nat.reduceLeDiff, *])), by omega, n1⟩
    | false =>
      have hmt := addM_f (a := x.amount) hmb rfl
      unfold mB at hmb
      rw [hmb] at hBS
      unfold mI at hmt hm1
      generalize bsI (fun m : MonV => ltS m.cur x.cur) O = i at hBS hmt hm1
      have hI := Ins_conMon (C := CtxP) (es := monsC O) (x := [.ex (.string x.cur), .ex (.int .i64 0)]) (i := i) (by omega) rfl (by omega)
      have q5 : ((monsC O).take i ++ [.ex (.string x.cur), .ex (.int .i64 0)] :: (monsC O).drop i)[i]? = some [.ex (.string x.cur), .ex (.int .i64 0)] := by
        rw [List.getElem?_append_right (by rw [List.length_take]; omega), List.length_take, show i - min i (monsC O).length = 0 by omega]; rfl
      have f4 : (((monsC O).take i ++ [.ex (.string x.cur), .ex (.int .i64 0)] :: (monsC O).drop i).all (·.all noSl0)) = true := by
        rw [List.all_append, List.all_cons, Bool.and_eq_true, Bool.and_eq_true]
        exact ⟨List.all_eq_true.2 fun r hr => List.all_eq_true.1 (mons_ns O) r (List.mem_of_mem_take hr), rfl, List.all_eq_true.2 fun r hr => List.all_eq_true.1 (mons_ns O) r (List.mem_of_mem_drop hr)⟩
      have f5 : ((monsC O).take i ++ [.ex (.string x.cur), .ex (.int .i64 0)] :: (monsC O).drop i).length = O.length + 1 := by
        rw [List.length_append, List.length_cons, List.length_take, List.length_drop]; omega
      have hA := hmt.symm
      generalize (monsC O).take i ++ [.ex (.string x.cur), .ex (.int .i64 0)] :: (monsC O).drop i = Y at hI q5 f4 f5 hA
      clear hmt hmb
      (repeat' (first | refine awp_seq ?_ | refine awp_block ?_ | (refine awp_ret ?_; simp only [then_ret, block_ret, end_ret]) | ((first | refine call_val (by first | (simp only [sxd, z0, p0, Nat.reduceEqDiff, ↓reduceIte]; (try rfl); done) | (simp (disch := omega) only [sxd, z0, p0, sx, Value.oneCell', ↓reduceIte, Nat.reduceAdd, Nat.reduceMul, Nat.reduceEqDiff, Nat.reduceLT, Nat.reduceLeDiff, Int.reduceToNat, Int.reduceEq, Int.reduceLT, Int.reduceLE, Int.reduceNe, *]; (try rfl); done)) (hBS) ?_ | refine call_mv (by (simp (disch := omega) only [sx, natS, ↓reduceIte, Nat.reduceAdd, Nat.reduceEqDiff, Nat.reduceLeDiff, *]; (try rfl))) rfl (by first | assumption | rfl) (by first | (simp only [sxd, z0, p0, Nat.reduceEqDiff, ↓reduceIte]; (try rfl); done) | (simp (disch := omega) only [sxd, z0, p0, sx, Value.oneCell', ↓reduceIte, Nat.reduceAdd, Nat.reduceMul, Nat.reduceEqDiff, Nat.reduceLT, Nat.reduceLeDiff, Int.reduceToNat, Int.reduceEq, Int.reduceLT, Int.reduceLE, Int.reduceNe, *]; (try rfl); done)) (by first | exact List.not_mem_nil | (simp only [List.mem_cons, List.not_mem_nil, or_false]; omega)) (by first | assumption | rfl) (by first | assumption | rfl) (hI) ?_ | refine vplain ?_ | refine vdraws (by kernel_rfl) ?_ | refine vbuildS (by simp only [tyb, elemOf_s]) (by simp only [tyb, sxb, Value.oneCell', Nat.reduceAdd, Nat.reduceMul, Nat.reduceLeDiff, Nat.reduceLT]) ?_ | refine vcond ?_ | refine awp_exit ?_ | refine awp_skip ?_ | refine And.intro (by first | omega | assumption | exact setOk_ge (by decide +kernel) | exact setOk_late (by decide +kernel) (by (simp (disch := omega) only [sx, Value.oneCell', ↓reduceIte, Nat.reduceAdd, Nat.reduceMul, Nat.reduceEqDiff, Nat.reduceLT, Nat.reduceLeDiff, Int.reduceToNat, Int.reduceEq, Int.reduceLT, Int.reduceLE, Int.reduceNe, natS, *]; rfl)) (by refine wkR_row ?_; repeat' (first | exact trivial | refine wkL_c (by decide +kernel) ?_)) | exact Nat.le_of_ble_eq_true (by kernel_rfl)) ?_ | refine nqif_ways (fun h => ?_) ?_ | ((first | refine gif_ways (fun h => ?_) (fun h => ?_) | refine cif_ways (fun h => ?_) (fun h => ?_)) <;> (try simp only [sxn] at h) <;> (try (exfalso; omega)))) <;> (try (simp (disch := omega) only [sx, Value.oneCell', ↓reduceIte, Nat.reduceAdd, Nat.reduceMul, Nat.reduceEqDiff, Nat.reduceLT, Nat.reduceLeDiff, Int.reduceToNat, Int.reduceEq, Int.reduceLT, Int.reduceLE, Int.reduceNe, *])))))
      trace_state
      exact kround_i (l.length - (k + 1)) (by omega) ⟨k + 1, _, addM O x.cur x.amount, rfl, by omega, by (first | rfl | (simp (disch := omega) only [sx, natS, ↓reduceIte, Nat.reduceAdd, Nat.reduceEqDiff, Nat.reduceLeDiff, *])), by (first | rfl | (simp (disch := omega) only [sx, natS, ↓reduceIte, Nat.reduceAdd, Nat.reduceEqDiff, Nat.reduceLeDiff, *])), by (first | rfl | (simp (disch := omega) only [sx, natS, ↓reduceIte, Nat.reduceAdd, Nat.reduceEqDiff, Nat.reduceLeDiff, *])), by (first | rfl | (simp (disch := omega) only [sx, natS, ↓reduceIte, Nat.reduceAdd, Nat.reduceEqDiff, Nat.reduceLeDiff, *])), by (simp (disch := omega) only [sx, natS, ↓reduceIte, Nat.reduceAdd, Nat.reduceEqDiff, Nat.reduceLeDiff, *]; (try rfl)), by omega, n1⟩
  · have hOe : O = sumsL l := by rw [hO.out, List.take_of_length_le (by omega)]
    subst hOe
    have f1 := mons_all (sumsL l)
    have f3 := mons_z0 (sumsL l)
    (repeat' (first | refine awp_seq ?_ | refine awp_block ?_ | (refine awp_ret ?_; simp only [then_ret, block_ret, end_ret]) | ((first | refine vplain ?_ | refine vdraws (by kernel_rfl) ?_ | refine vbuildS (by simp only [tyb, elemOf_s]) (by simp only [tyb, sxb, Value.oneCell', Nat.reduceAdd, Nat.reduceMul, Nat.reduceLeDiff, Nat.reduceLT]) ?_ | refine vcond ?_ | refine awp_exit ?_ | refine awp_skip ?_ | refine And.intro (by first | omega | assumption | exact setOk_ge (by decide +kernel) | exact setOk_late (by decide +kernel) (by (simp (disch := omega) only [sx, Value.oneCell', ↓reduceIte, Nat.reduceAdd, Nat.reduceMul, Nat.reduceEqDiff, Nat.reduceLT, Nat.reduceLeDiff, Int.reduceToNat, Int.reduceEq, Int.reduceLT, Int.reduceLE, Int.reduceNe, natS, *]; rfl)) (by refine wkR_row ?_; repeat' (first | exact trivial | refine wkL_c (by decide +kernel) ?_)) | exact Nat.le_of_ble_eq_true (by kernel_rfl)) ?_ | refine nqif_ways (fun h => ?_) ?_ | ((first | refine gif_ways (fun h => ?_) (fun h => ?_) | refine cif_ways (fun h => ?_) (fun h => ?_)) <;> (try simp only [sxn] at h) <;> (try (exfalso; omega)))) <;> (try (simp (disch := omega) only [sx, Value.oneCell', ↓reduceIte, Nat.reduceAdd, Nat.reduceMul, Nat.reduceEqDiff, Nat.reduceLT, Nat.reduceLeDiff, Int.reduceToNat, Int.reduceEq, Int.reduceLT, Int.reduceLE, Int.reduceNe, *])))))
    all_goals simp only [sxd, z0, p0, Nat.reduceEqDiff, ↓reduceIte, Tryd.f39, *]
end Go.Proofs.YtmnnphalljnmhaaDoor
