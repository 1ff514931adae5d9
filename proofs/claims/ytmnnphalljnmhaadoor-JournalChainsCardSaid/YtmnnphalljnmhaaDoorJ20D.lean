/-
  Chapter 20, walked: what posting does. Conditions: those that each theorem states.
-/
import Derived.Test.YtmnnphalljnmhaaDoorJ20B
import Derived.Test.YtmnnphalljnmhaaDoorC19M
import Derived.Test.YtmnnphalljnmhaaDoorC19L
namespace Go.Proofs.YtmnnphalljnmhaaDoor
open Go.RowKit
set_option maxRecDepth 100000
set_option linter.unusedSimpArgs false

theorem Clone_con (l : List LegV) (hl : l.length ≤ 1000000) : Con Tryd.prog CtxP 91 [.sl (legsC l)] (.val (.sl (legsC l))) := by
  refine con_val base Tryd.func91 rfl rfl (by kernel_rfl) (Nat.le_of_ble_eq_true rfl) ?_
  rw [init_eq]
  have q1 := legs_len l
  have f1 := legs_all l
  have f2 := legs_z0 l
  have f3 := legs_three l
  have f4 : l.length * 32 ≤ 140737488355328 := by omega
  (repeat' (first | refine awp_seq ?_ | refine awp_block ?_ | (refine awp_ret ?_; simp only [then_ret, block_ret, end_ret]) | ((first | refine vplain ?_ | refine vbuildS (by simp only [tyb, elemOf_s]) (by simp only [tyb, sxb, Value.oneCell', Nat.reduceAdd, Nat.reduceMul, Nat.reduceLeDiff, Nat.reduceLT]) ?_ | refine vcond ?_ | refine awp_exit ?_ | refine awp_skip ?_ | refine And.intro (by first | omega | assumption | exact setOk_ge (by decide +kernel)) ?_ | refine nqif_ways (fun h => ?_) ?_ | ((first | refine gif_ways (fun h => ?_) (fun h => ?_) | refine cif_ways (fun h => ?_) (fun h => ?_)) <;> (try simp only [sxn] at h) <;> (try (exfalso; omega)))) <;> (try (simp (disch := omega) only [sx, Value.oneCell', ↓reduceIte, Nat.reduceAdd, Nat.reduceMul, Nat.reduceEqDiff, Nat.reduceLT, Nat.reduceLeDiff, Int.reduceToNat, Int.reduceEq, Int.reduceLT, Int.reduceLE, Int.reduceNe, *])))))
  all_goals simp only [sxd, z0, p0, Nat.reduceEqDiff, ↓reduceIte, Tryd.f91, *]
theorem last_con (j : List EntV) (hj : j.length ≤ 1000000) : Con Tryd.prog CtxP 51 [.sl (ents j)] (.val (.tup [.ex (.int .u64 (chainL j)), .ex (.int .i64 (dayL j))])) := by
  have q1 := ents_len j
  cases hlt : j with
  | nil =>
    have q3 := ents_nil
    rw [show chainL [] = 0 from rfl, show dayL [] = -1 from rfl]
    (refine con_val base Tryd.func51 rfl rfl (by kernel_rfl) (Nat.le_of_ble_eq_true rfl) ?_; rw [init_eq])
    (repeat' (first | refine awp_seq ?_ | refine awp_block ?_ | (refine awp_ret ?_; simp only [then_ret, block_ret, end_ret]) | ((first | refine vplain ?_ | refine vdraws (by kernel_rfl) ?_ | refine vcond ?_ | refine awp_exit ?_ | refine awp_skip ?_ | refine And.intro (by first | omega | assumption | exact setOk_ge (by decide +kernel)) ?_ | refine nqif_ways (fun h => ?_) ?_ | ((first | refine gif_ways (fun h => ?_) (fun h => ?_) | refine cif_ways (fun h => ?_) (fun h => ?_)) <;> (try simp only [sxn] at h) <;> (try (exfalso; omega)))) <;> (try (simp (disch := omega) only [sx, Value.oneCell', ↓reduceIte, Nat.reduceAdd, Nat.reduceMul, Nat.reduceEqDiff, Nat.reduceLT, Nat.reduceLeDiff, Int.reduceToNat, Int.reduceEq, Int.reduceLT, Int.reduceLE, Int.reduceNe, *])))))
    all_goals simp only [sxd, z0, p0, Nat.reduceEqDiff, ↓reduceIte, Tryd.f51, *]
  | cons a m =>
    rw [← hlt]
    have hlen : 0 < j.length := by rw [hlt]; exact Nat.zero_lt_succ _
    clear hlt
    have hi : j.length - 1 < j.length := by omega
    have e0 : j[j.length - 1]? = some j[j.length - 1] := List.getElem?_eq_getElem hi
    generalize j[j.length - 1] = x at e0
    obtain ⟨h1, h2⟩ := chainL_at e0
    have q6 : ((j.length : Int) - 1).toNat = j.length - 1 := by omega
    rw [h1, h2]
    have q4 := ents_get e0
    clear e0 h1 h2 a m
    (refine con_val base Tryd.func51 rfl rfl (by kernel_rfl) (Nat.le_of_ble_eq_true rfl) ?_; rw [init_eq])
    (repeat' (first | refine awp_seq ?_ | refine awp_block ?_ | (refine awp_ret ?_; simp only [then_ret, block_ret, end_ret]) | ((first | refine vplain ?_ | refine vdraws (by kernel_rfl) ?_ | refine vcond ?_ | refine awp_exit ?_ | refine awp_skip ?_ | refine And.intro (by first | omega | assumption | exact setOk_ge (by decide +kernel)) ?_ | refine nqif_ways (fun h => ?_) ?_ | ((first | refine gif_ways (fun h => ?_) (fun h => ?_) | refine cif_ways (fun h => ?_) (fun h => ?_)) <;> (try simp only [sxn] at h) <;> (try (exfalso; omega)))) <;> (try (simp (disch := omega) only [sx, Value.oneCell', ↓reduceIte, Nat.reduceAdd, Nat.reduceMul, Nat.reduceEqDiff, Nat.reduceLT, Nat.reduceLeDiff, Int.reduceToNat, Int.reduceEq, Int.reduceLT, Int.reduceLE, Int.reduceNe, *])))))
    all_goals simp only [sxd, z0, p0, Nat.reduceEqDiff, ↓reduceIte, Tryd.f51, *]

theorem sealed_con (e : EntV) (n : Nat) (c : Int) (h : e.Fit) (hn : n ≤ 5000) (hc : U64 c) : Con Tryd.prog CtxP 52 [.agg [.ex (.int .i64 e.id), .ex (.int .i64 e.booked), .ex (.int .i64 e.value), .ex (.int .i64 e.kind), .ex (.int .i64 e.auth), .ex (.int .i64 e.period), .ex (.string e.key), .ex (.string e.text), .sl (legsC e.legs), .ex (.int .u64 e.chain)], .ex (.int .i64 n), .ex (.int .u64 c)] (.val (.agg [.ex (.int .i64 (sealE e n c).id), .ex (.int .i64 (sealE e n c).booked), .ex (.int .i64 (sealE e n c).value), .ex (.int .i64 (sealE e n c).kind), .ex (.int .i64 (sealE e n c).auth), .ex (.int .i64 (sealE e n c).period), .ex (.string (sealE e n c).key), .ex (.string (sealE e n c).text), .sl (legsC (sealE e n c).legs), .ex (.int .u64 (sealE e n c).chain)])) := by
  have hf := idE_fit h hn
  have hE := Encode_con (idE e n) hf.rt.sm
  have hC := Chain_con c (encE (idE e n)) hc (Nat.le_trans (encE_size hf.rt) (by decide))
  have c1 := Clone_con e.legs (by have := h.ok.n; omega)
  unfold idE at hE
  show Con Tryd.prog CtxP 52 _ (.val (.agg [.ex (.int .i64 ((n : Int) + 1)), .ex (.int .i64 e.booked), .ex (.int .i64 e.value), .ex (.int .i64 e.kind), .ex (.int .i64 e.auth), .ex (.int .i64 e.period), .ex (.string e.key), .ex (.string e.text), .sl (legsC e.legs), .ex (.int .u64 (dchain c (encE (idE e n)).data.toList))]))
  unfold idE at hC
  unfold idE
  dsimp only at hE hC ⊢
  generalize encE _ = s at *
  generalize dchain c _ = d at *
  clear h hf hc
  refine con_val base Tryd.func52 rfl rfl (by kernel_rfl) (Nat.le_of_ble_eq_true rfl) ?_
  rw [init_eq]
  (repeat' (first | refine awp_seq ?_ | refine awp_block ?_ | (refine awp_ret ?_; simp only [then_ret, block_ret, end_ret]) | ((first | refine call_val (by first | (simp only [sxd, z0, p0, Nat.reduceEqDiff, ↓reduceIte]; (try rfl); done) | (simp (disch := omega) only [sxd, z0, p0, sx, Value.oneCell', ↓reduceIte, Nat.reduceAdd, Nat.reduceMul, Nat.reduceEqDiff, Nat.reduceLT, Nat.reduceLeDiff, Int.reduceToNat, Int.reduceEq, Int.reduceLT, Int.reduceLE, Int.reduceNe, *]; (try rfl); done)) (c1) ?_ | refine call_val (by first | (simp only [sxd, z0, p0, Nat.reduceEqDiff, ↓reduceIte]; (try rfl); done) | (simp (disch := omega) only [sxd, z0, p0, sx, Value.oneCell', ↓reduceIte, Nat.reduceAdd, Nat.reduceMul, Nat.reduceEqDiff, Nat.reduceLT, Nat.reduceLeDiff, Int.reduceToNat, Int.reduceEq, Int.reduceLT, Int.reduceLE, Int.reduceNe, *]; (try rfl); done)) (hE) ?_ | refine call_val (by first | (simp only [sxd, z0, p0, Nat.reduceEqDiff, ↓reduceIte]; (try rfl); done) | (simp (disch := omega) only [sxd, z0, p0, sx, Value.oneCell', ↓reduceIte, Nat.reduceAdd, Nat.reduceMul, Nat.reduceEqDiff, Nat.reduceLT, Nat.reduceLeDiff, Int.reduceToNat, Int.reduceEq, Int.reduceLT, Int.reduceLE, Int.reduceNe, *]; (try rfl); done)) (hC) ?_ | refine vplain ?_ | refine vcond ?_ | refine awp_exit ?_ | refine awp_skip ?_ | refine And.intro (by first | omega | assumption | exact setOk_ge (by decide +kernel)) ?_ | refine nqif_ways (fun h => ?_) ?_ | ((first | refine gif_ways (fun h => ?_) (fun h => ?_) | refine cif_ways (fun h => ?_) (fun h => ?_)) <;> (try simp only [sxn] at h) <;> (try (exfalso; omega)))) <;> (try (simp (disch := omega) only [sx, Value.oneCell', ↓reduceIte, Nat.reduceAdd, Nat.reduceMul, Nat.reduceEqDiff, Nat.reduceLT, Nat.reduceLeDiff, Int.reduceToNat, Int.reduceEq, Int.reduceLT, Int.reduceLE, Int.reduceNe, *])))))
  all_goals (refine aretc_1 rfl (by (simp (disch := omega) only [sx, natS, ↓reduceIte, Nat.reduceAdd, Nat.reduceEqDiff, Nat.reduceLeDiff, *]; (try rfl))) (by (simp (disch := omega) only [sx, natS, ↓reduceIte, Nat.reduceAdd, Nat.reduceEqDiff, Nat.reduceLeDiff, *]; (try rfl))) (by first | rfl | (simp (disch := omega) only [sx, natS, ↓reduceIte, Nat.reduceAdd, Nat.reduceEqDiff, Nat.reduceLeDiff, *]; (try rfl))) (by simp only [ATy.isAgg, tyb]) (by simp only [tyb]; rfl) (by exact Nat.zero_lt_succ _) (by first | (simp only [sxd, z0, p0, Nat.reduceEqDiff, ↓reduceIte]; rfl) | (simp only [sxd, z0, p0, Nat.reduceEqDiff, ↓reduceIte, *]; rfl) | (simp (disch := omega) only [sxd, z0, p0, Nat.reduceEqDiff, ↓reduceIte, sx, Value.oneCell', ↓reduceIte, Nat.reduceAdd, Nat.reduceMul, Nat.reduceEqDiff, Nat.reduceLT, Nat.reduceLeDiff, Int.reduceToNat, Int.reduceEq, Int.reduceLT, Int.reduceLE, Int.reduceNe, *]; rfl)) ?_)
  all_goals first | rfl | simp only [*]
theorem next_con (j : List EntV) (e : EntV) (h : e.Fit) (hn : j.length ≤ 5000) (hj : Fits j) : Con Tryd.prog CtxP 53 [.sl (ents j), .agg [.ex (.int .i64 e.id), .ex (.int .i64 e.booked), .ex (.int .i64 e.value), .ex (.int .i64 e.kind), .ex (.int .i64 e.auth), .ex (.int .i64 e.period), .ex (.string e.key), .ex (.string e.text), .sl (legsC e.legs), .ex (.int .u64 e.chain)]] (.val (.agg [.ex (.int .i64 (sealE e j.length (chainL j)).id), .ex (.int .i64 (sealE e j.length (chainL j)).booked), .ex (.int .i64 (sealE e j.length (chainL j)).value), .ex (.int .i64 (sealE e j.length (chainL j)).kind), .ex (.int .i64 (sealE e j.length (chainL j)).auth), .ex (.int .i64 (sealE e j.length (chainL j)).period), .ex (.string (sealE e j.length (chainL j)).key), .ex (.string (sealE e j.length (chainL j)).text), .sl (legsC (sealE e j.length (chainL j)).legs), .ex (.int .u64 (sealE e j.length (chainL j)).chain)])) := by
  have hf := idE_fit h hn
  have hE := REncode_con (idE e j.length) hf.rt.sm
  have hC := RChain_con (chainL j) (encE (idE e j.length)) (chainL_u64 hj) (Nat.le_trans (encE_size hf.rt) (by decide))
  have q1 := ents_len j
  unfold idE at hE
  show Con Tryd.prog CtxP 53 _ (.val (.agg [.ex (.int .i64 ((j.length : Int) + 1)), .ex (.int .i64 e.booked), .ex (.int .i64 e.value), .ex (.int .i64 e.kind), .ex (.int .i64 e.auth), .ex (.int .i64 e.period), .ex (.string e.key), .ex (.string e.text), .sl (legsC e.legs), .ex (.int .u64 (dchain (chainL j) (encE (idE e j.length)).data.toList))]))
  unfold idE at hC
  unfold idE
  dsimp only at hE hC ⊢
  clear h hf hj
  cases hlt : j with
  | nil =>
    subst hlt
    rw [show chainL [] = 0 from rfl] at hC
    rw [show chainL [] = 0 from rfl]
    have q3 := ents_nil
    generalize encE _ = s at *
    generalize dchain 0 _ = d at *
    (refine con_val base Tryd.func53 rfl rfl (by kernel_rfl) (Nat.le_of_ble_eq_true rfl) ?_; rw [init_eq])
    (repeat' (first | refine awp_seq ?_ | refine awp_block ?_ | (refine awp_ret ?_; simp only [then_ret, block_ret, end_ret]) | ((first | refine call_val (by first | (simp only [sxd, z0, p0, Nat.reduceEqDiff, ↓reduceIte]; (try rfl); done) | (simp (disch := omega) only [sxd, z0, p0, sx, Value.oneCell', ↓reduceIte, Nat.reduceAdd, Nat.reduceMul, Nat.reduceEqDiff, Nat.reduceLT, Nat.reduceLeDiff, Int.reduceToNat, Int.reduceEq, Int.reduceLT, Int.reduceLE, Int.reduceNe, *]; (try rfl); done)) (hE) ?_ | refine call_val (by first | (simp only [sxd, z0, p0, Nat.reduceEqDiff, ↓reduceIte]; (try rfl); done) | (simp (disch := omega) only [sxd, z0, p0, sx, Value.oneCell', ↓reduceIte, Nat.reduceAdd, Nat.reduceMul, Nat.reduceEqDiff, Nat.reduceLT, Nat.reduceLeDiff, Int.reduceToNat, Int.reduceEq, Int.reduceLT, Int.reduceLE, Int.reduceNe, *]; (try rfl); done)) (hC) ?_ | refine vplain ?_ | refine vcond ?_ | refine awp_exit ?_ | refine awp_skip ?_ | refine And.intro (by first | omega | assumption | exact setOk_ge (by decide +kernel)) ?_ | refine nqif_ways (fun h => ?_) ?_ | ((first | refine gif_ways (fun h => ?_) (fun h => ?_) | refine cif_ways (fun h => ?_) (fun h => ?_)) <;> (try simp only [sxn] at h) <;> (try (exfalso; omega)))) <;> (try (simp (disch := omega) only [sx, Value.oneCell', ↓reduceIte, Nat.reduceAdd, Nat.reduceMul, Nat.reduceEqDiff, Nat.reduceLT, Nat.reduceLeDiff, Int.reduceToNat, Int.reduceEq, Int.reduceLT, Int.reduceLE, Int.reduceNe, *])))))
    all_goals (refine aretc_1 rfl (by (simp (disch := omega) only [sx, natS, ↓reduceIte, Nat.reduceAdd, Nat.reduceEqDiff, Nat.reduceLeDiff, *]; (try rfl))) (by (simp (disch := omega) only [sx, natS, ↓reduceIte, Nat.reduceAdd, Nat.reduceEqDiff, Nat.reduceLeDiff, *]; (try rfl))) (by first | rfl | (simp (disch := omega) only [sx, natS, ↓reduceIte, Nat.reduceAdd, Nat.reduceEqDiff, Nat.reduceLeDiff, *]; (try rfl))) (by simp only [ATy.isAgg, tyb]) (by simp only [tyb]; rfl) (by exact Nat.zero_lt_succ _) (by first | (simp only [sxd, z0, p0, Nat.reduceEqDiff, ↓reduceIte]; rfl) | (simp only [sxd, z0, p0, Nat.reduceEqDiff, ↓reduceIte, *]; rfl) | (simp (disch := omega) only [sxd, z0, p0, Nat.reduceEqDiff, ↓reduceIte, sx, Value.oneCell', ↓reduceIte, Nat.reduceAdd, Nat.reduceMul, Nat.reduceEqDiff, Nat.reduceLT, Nat.reduceLeDiff, Int.reduceToNat, Int.reduceEq, Int.reduceLT, Int.reduceLE, Int.reduceNe, *]; rfl)) ?_)
    all_goals first | rfl | simp only [*]
  | cons a m =>
    rw [← hlt]
    have hlen : 0 < j.length := by rw [hlt]; exact Nat.zero_lt_succ _
    clear hlt
    have hi : j.length - 1 < j.length := by omega
    have e0 : j[j.length - 1]? = some j[j.length - 1] := List.getElem?_eq_getElem hi
    generalize j[j.length - 1] = x at e0
    obtain ⟨h1, h2⟩ := chainL_at e0
    have q6 : ((j.length : Int) - 1).toNat = j.length - 1 := by omega
    rw [h1] at hC
    rw [h1]
    have q4 := ents_get e0
    clear e0 h1 h2 a m
    generalize encE _ = s at *
    generalize dchain x.chain _ = d at *
    (refine con_val base Tryd.func53 rfl rfl (by kernel_rfl) (Nat.le_of_ble_eq_true rfl) ?_; rw [init_eq])
    (repeat' (first | refine awp_seq ?_ | refine awp_block ?_ | (refine awp_ret ?_; simp only [then_ret, block_ret, end_ret]) | ((first | refine call_val (by first | (simp only [sxd, z0, p0, Nat.reduceEqDiff, ↓reduceIte]; (try rfl); done) | (simp (disch := omega) only [sxd, z0, p0, sx, Value.oneCell', ↓reduceIte, Nat.reduceAdd, Nat.reduceMul, Nat.reduceEqDiff, Nat.reduceLT, Nat.reduceLeDiff, Int.reduceToNat, Int.reduceEq, Int.reduceLT, Int.reduceLE, Int.reduceNe, *]; (try rfl); done)) (hE) ?_ | refine call_val (by first | (simp only [sxd, z0, p0, Nat.reduceEqDiff, ↓reduceIte]; (try rfl); done) | (simp (disch := omega) only [sxd, z0, p0, sx, Value.oneCell', ↓reduceIte, Nat.reduceAdd, Nat.reduceMul, Nat.reduceEqDiff, Nat.reduceLT, Nat.reduceLeDiff, Int.reduceToNat, Int.reduceEq, Int.reduceLT, Int.reduceLE, Int.reduceNe, *]; (try rfl); done)) (hC) ?_ | refine vplain ?_ | refine vcond ?_ | refine awp_exit ?_ | refine awp_skip ?_ | refine And.intro (by first | omega | assumption | exact setOk_ge (by decide +kernel)) ?_ | refine nqif_ways (fun h => ?_) ?_ | ((first | refine gif_ways (fun h => ?_) (fun h => ?_) | refine cif_ways (fun h => ?_) (fun h => ?_)) <;> (try simp only [sxn] at h) <;> (try (exfalso; omega)))) <;> (try (simp (disch := omega) only [sx, Value.oneCell', ↓reduceIte, Nat.reduceAdd, Nat.reduceMul, Nat.reduceEqDiff, Nat.reduceLT, Nat.reduceLeDiff, Int.reduceToNat, Int.reduceEq, Int.reduceLT, Int.reduceLE, Int.reduceNe, *])))))
    all_goals (refine aretc_1 rfl (by (simp (disch := omega) only [sx, natS, ↓reduceIte, Nat.reduceAdd, Nat.reduceEqDiff, Nat.reduceLeDiff, *]; (try rfl))) (by (simp (disch := omega) only [sx, natS, ↓reduceIte, Nat.reduceAdd, Nat.reduceEqDiff, Nat.reduceLeDiff, *]; (try rfl))) (by first | rfl | (simp (disch := omega) only [sx, natS, ↓reduceIte, Nat.reduceAdd, Nat.reduceEqDiff, Nat.reduceLeDiff, *]; (try rfl))) (by simp only [ATy.isAgg, tyb]) (by simp only [tyb]; rfl) (by exact Nat.zero_lt_succ _) (by first | (simp only [sxd, z0, p0, Nat.reduceEqDiff, ↓reduceIte]; rfl) | (simp only [sxd, z0, p0, Nat.reduceEqDiff, ↓reduceIte, *]; rfl) | (simp (disch := omega) only [sxd, z0, p0, Nat.reduceEqDiff, ↓reduceIte, sx, Value.oneCell', ↓reduceIte, Nat.reduceAdd, Nat.reduceMul, Nat.reduceEqDiff, Nat.reduceLT, Nat.reduceLeDiff, Int.reduceToNat, Int.reduceEq, Int.reduceLT, Int.reduceLE, Int.reduceNe, *]; rfl)) ?_)
    all_goals first | rfl | simp only [*]

end Go.Proofs.YtmnnphalljnmhaaDoor
