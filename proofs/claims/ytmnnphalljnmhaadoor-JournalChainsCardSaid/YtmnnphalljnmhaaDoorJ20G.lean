/-
  Chapter 20, walked: the chapter's examples, which every law asks. Conditions: none.
-/
import Derived.Test.YtmnnphalljnmhaaDoorJ20F
namespace Go.Proofs.YtmnnphalljnmhaaDoor
open Go.RowKit
set_option maxRecDepth 100000
set_option linter.unusedSimpArgs false

def oneL : List LegV := [⟨1, 5, ⟨#[69, 85, 82]⟩⟩, ⟨1000, -5, ⟨#[69, 85, 82]⟩⟩]
def oneV (key : ByteArray) (booked : Int) : EntV := ⟨0, booked, 0, 1, 0, 0, key, ⟨#[]⟩, oneL, 0⟩
theorem one_con (key : ByteArray) (booked : Int) : Con Tryd.prog CtxP 50 [.ex (.string key), .ex (.int .i64 booked)] (.aggf [.ex (.int .i64 0), .ex (.int .i64 booked), .ex (.int .i64 0), .ex (.int .i64 1), .ex (.int .i64 0), .ex (.int .i64 0), .ex (.string key), .ex (.string ⟨#[]⟩), .junk, .ex (.int .u64 0)] 8 62 [[.ex (.int .i64 1), .ex (.int .i64 5), .ex (.string ⟨#[69, 85, 82]⟩)], [.ex (.int .i64 1000), .ex (.int .i64 (-5)), .ex (.string ⟨#[69, 85, 82]⟩)]]) := by
  refine con_aggf base Tryd.func50 rfl rfl (by kernel_rfl) (Nat.le_of_ble_eq_true rfl) ?_
  rw [init_eq]
  (repeat' (first | refine awp_seq ?_ | refine awp_block ?_ | (refine awp_ret ?_; simp only [then_ret, block_ret, end_ret]) | ((first | refine vplain ?_ | refine vdraws (by kernel_rfl) ?_ | refine vbuildS (by simp only [tyb, elemOf_s]) (by simp only [tyb, sxb, Value.oneCell', Nat.reduceAdd, Nat.reduceMul, Nat.reduceLeDiff, Nat.reduceLT]) ?_ | refine vcond ?_ | refine awp_exit ?_ | refine awp_skip ?_ | refine And.intro (by first | omega | assumption | exact setOk_ge (by decide +kernel) | exact setOk_late (by decide +kernel) (by (simp (disch := omega) only [sx, Value.oneCell', ↓reduceIte, Nat.reduceAdd, Nat.reduceMul, Nat.reduceEqDiff, Nat.reduceLT, Nat.reduceLeDiff, Int.reduceToNat, Int.reduceEq, Int.reduceLT, Int.reduceLE, Int.reduceNe, natS, *]; rfl)) (by refine wkR_row ?_; repeat' (first | exact trivial | refine wkL_c (by decide +kernel) ?_)) | exact Nat.le_of_ble_eq_true (by kernel_rfl)) ?_ | refine nqif_ways (fun h => ?_) ?_ | ((first | refine gif_ways (fun h => ?_) (fun h => ?_) | refine cif_ways (fun h => ?_) (fun h => ?_)) <;> (try simp only [sxn] at h) <;> (try (exfalso; omega)))) <;> (try (simp (maxSteps := 4000000) (disch := omega) only [sx, Value.oneCell', ↓reduceIte, Nat.reduceAdd, Nat.reduceMul, Nat.reduceEqDiff, Nat.reduceLT, Nat.reduceLeDiff, Int.reduceToNat, Int.reduceEq, Int.reduceLT, Int.reduceLE, Int.reduceNe, *])))))
  refine aaggc rfl (by (simp (disch := omega) only [sx, natS, ↓reduceIte, Nat.reduceAdd, Nat.reduceEqDiff, Nat.reduceLeDiff, *]; (try rfl))) (by (simp (disch := omega) only [sx, natS, ↓reduceIte, Nat.reduceAdd, Nat.reduceEqDiff, Nat.reduceLeDiff, *]; (try rfl))) (by first | rfl | (simp (disch := omega) only [sx, natS, ↓reduceIte, Nat.reduceAdd, Nat.reduceEqDiff, Nat.reduceLeDiff, *]; (try rfl))) (by simp only [ATy.isAgg, tyb]) (by simp only [tyb]; rfl) (by exact Nat.zero_lt_succ _) (by first | rfl | (simp (disch := omega) only [sx, natS, ↓reduceIte, Nat.reduceAdd, Nat.reduceEqDiff, Nat.reduceLeDiff, *]; (try rfl))) (by (simp (disch := omega) only [sx, natS, ↓reduceIte, Nat.reduceAdd, Nat.reduceEqDiff, Nat.reduceLeDiff, *]; (try rfl))) (by first | rfl | (simp (disch := omega) only [sx, natS, ↓reduceIte, Nat.reduceAdd, Nat.reduceEqDiff, Nat.reduceLeDiff, *]; (try rfl))) (by first | rfl | (simp only [sxd, z0, p0, Nat.reduceEqDiff, ↓reduceIte]; rfl)) (by first | rfl | (simp only [sxd, z0, p0, Nat.reduceEqDiff, ↓reduceIte]; rfl)) ?_
  exact ⟨rfl, rfl, rfl⟩
theorem one_leg : ∀ x ∈ oneL, In64 x.account ∧ In64 x.amount ∧ x.cur.size ≤ 100 := by
  intro x hx
  simp only [oneL, List.mem_cons, List.not_mem_nil, or_false] at hx
  rcases hx with rfl | rfl <;> (unfold In64; refine ⟨by decide, by decide, ?_⟩; show 3 ≤ 100; decide)
theorem one_fit {key : ByteArray} {booked : Int} (hk : key.size ≤ 1000) (hb : In64 booked) : (oneV key booked).Fit := by
  have h0 : In64 0 := by unfold In64; decide
  have h1 : In64 1 := by unfold In64; decide
  refine fit_of ⟨h0, hb, h0, h1, h0, h0, by show key.size ≤ 140737488355328; omega, by show 0 ≤ 140737488355328; decide, fun x hx => ?_, by show 2 ≤ 140737488355328; decide, by show InU64 0; unfold InU64; decide⟩ ?_
  · obtain ⟨g1, g2, g3⟩ := one_leg x hx
    exact ⟨g1, g2, by omega⟩
  · unfold greatE
    rw [show decide (30 < (oneV key booked).legs.length) = false from rfl, decide_eq_false (show ¬ 1000 < (oneV key booked).key.size by show ¬ 1000 < key.size; omega), show decide (1000 < (oneV key booked).text.size) = false from rfl, show (oneV key booked).legs.any wideL = false from rfl]; rfl
theorem chk_a3 : checkE (oneV ⟨#[97]⟩ 3) = 0 := by kernel_rfl
theorem chk_a9 : checkE (oneV ⟨#[97]⟩ 9) = 0 := by kernel_rfl
theorem chk_b4 : checkE (oneV ⟨#[98]⟩ 4) = 0 := by kernel_rfl
theorem chk_c2 : checkE (oneV ⟨#[99]⟩ 2) = 0 := by kernel_rfl
theorem in3 : In64 3 := by unfold In64; decide
theorem in4 : In64 4 := by unfold In64; decide
theorem in9 : In64 9 := by unfold In64; decide
theorem in2 : In64 2 := by unfold In64; decide
theorem one_sz (c : UInt8) : (⟨#[c]⟩ : ByteArray).size ≤ 1000 := by show 1 ≤ 1000; decide
def encA : ByteArray := encE (idE (oneV ⟨#[97]⟩ 3) 0)
def cA : Int := dchain 0 encA.data.toList
def encB : ByteArray := encE (idE (oneV ⟨#[98]⟩ 4) 1)
def cB : Int := dchain cA encB.data.toList
def eA : EntV := { idE (oneV ⟨#[97]⟩ 3) 0 with chain := cA }
def eB : EntV := { idE (oneV ⟨#[98]⟩ 4) 1 with chain := cB }
theorem eA_is : sealE (oneV ⟨#[97]⟩ 3) 0 0 = eA := by unfold sealE eA cA encA; rfl
theorem eB_is : sealE (oneV ⟨#[98]⟩ 4) 1 cA = eB := by unfold sealE eB cB encB; rfl
theorem eA_fit : eA.Fit := by rw [← eA_is]; exact sealE_fit (one_fit (one_sz _) in3) (by decide) 0
theorem eB_fit : eB.Fit := by rw [← eB_is]; exact sealE_fit (one_fit (one_sz _) in4) (by decide) cA
theorem fits_nil : Fits [] := fun e h => by simp at h
theorem fits_A : Fits [eA] := fun e h => by rw [List.mem_singleton.1 h]; exact eA_fit
theorem fits_AB : Fits [eA, eB] := fun e h => by
  simp only [List.mem_cons, List.not_mem_nil, or_false] at h
  rcases h with rfl | rfl
  · exact eA_fit
  · exact eB_fit
theorem fits_BA : Fits [eB, eA] := fun e h => by
  simp only [List.mem_cons, List.not_mem_nil, or_false] at h
  rcases h with rfl | rfl
  · exact eB_fit
  · exact eA_fit
theorem chk_A : checkE eA = 0 := by rw [← eA_is, check_seal]; exact chk_a3
theorem chk_B : checkE eB = 0 := by rw [← eB_is, check_seal]; exact chk_b4
theorem ch_A : chainL [eA] = cA := rfl
theorem has_Ab : hasK [eA] ⟨#[98]⟩ = false := by kernel_rfl
theorem has_Aa : hasK [eA] ⟨#[97]⟩ = true := by kernel_rfl
theorem has_Ac : hasK [eA] ⟨#[99]⟩ = false := by kernel_rfl
theorem ex_1 : examE [] (oneV ⟨#[97]⟩ 3) = 0 := exam_nil chk_a3
theorem ex_2 : examE [eA] (oneV ⟨#[98]⟩ 4) = 0 := exam_ok' chk_b4 has_Ab (fun h => absurd h.2 (by show ¬ (4 : Int) < 3; decide)) (by show ¬ 4096 ≤ 1; decide)
theorem ex_3 : examE [eA] (oneV ⟨#[97]⟩ 9) = 12 := exam_dup chk_a9 has_Aa
theorem ex_4 : examE [eA] (oneV ⟨#[99]⟩ 2) = 10 := exam_day5 chk_c2 has_Ac ⟨by simp, by show (2 : Int) < 3; decide⟩
theorem ents_A : ents [eA] = [[.ex (.int .i64 1), .ex (.int .i64 3), .ex (.int .i64 0), .ex (.int .i64 1), .ex (.int .i64 0), .ex (.int .i64 0), .ex (.string ⟨#[97]⟩), .ex (.string ⟨#[]⟩), .sl [[.ex (.int .i64 1), .ex (.int .i64 5), .ex (.string ⟨#[69, 85, 82]⟩)], [.ex (.int .i64 1000), .ex (.int .i64 (-5)), .ex (.string ⟨#[69, 85, 82]⟩)]], .ex (.int .u64 cA)]] := rfl
theorem ents_AB : ents [eA, eB] = [[.ex (.int .i64 1), .ex (.int .i64 3), .ex (.int .i64 0), .ex (.int .i64 1), .ex (.int .i64 0), .ex (.int .i64 0), .ex (.string ⟨#[97]⟩), .ex (.string ⟨#[]⟩), .sl [[.ex (.int .i64 1), .ex (.int .i64 5), .ex (.string ⟨#[69, 85, 82]⟩)], [.ex (.int .i64 1000), .ex (.int .i64 (-5)), .ex (.string ⟨#[69, 85, 82]⟩)]], .ex (.int .u64 cA)], [.ex (.int .i64 2), .ex (.int .i64 4), .ex (.int .i64 0), .ex (.int .i64 1), .ex (.int .i64 0), .ex (.int .i64 0), .ex (.string ⟨#[98]⟩), .ex (.string ⟨#[]⟩), .sl [[.ex (.int .i64 1), .ex (.int .i64 5), .ex (.string ⟨#[69, 85, 82]⟩)], [.ex (.int .i64 1000), .ex (.int .i64 (-5)), .ex (.string ⟨#[69, 85, 82]⟩)]], .ex (.int .u64 cB)]] := rfl
theorem ents_BA : ents [eB, eA] = [[.ex (.int .i64 2), .ex (.int .i64 4), .ex (.int .i64 0), .ex (.int .i64 1), .ex (.int .i64 0), .ex (.int .i64 0), .ex (.string ⟨#[98]⟩), .ex (.string ⟨#[]⟩), .sl [[.ex (.int .i64 1), .ex (.int .i64 5), .ex (.string ⟨#[69, 85, 82]⟩)], [.ex (.int .i64 1000), .ex (.int .i64 (-5)), .ex (.string ⟨#[69, 85, 82]⟩)]], .ex (.int .u64 cB)], [.ex (.int .i64 1), .ex (.int .i64 3), .ex (.int .i64 0), .ex (.int .i64 1), .ex (.int .i64 0), .ex (.int .i64 0), .ex (.string ⟨#[97]⟩), .ex (.string ⟨#[]⟩), .sl [[.ex (.int .i64 1), .ex (.int .i64 5), .ex (.string ⟨#[69, 85, 82]⟩)], [.ex (.int .i64 1000), .ex (.int .i64 (-5)), .ex (.string ⟨#[69, 85, 82]⟩)]], .ex (.int .u64 cA)]] := rfl
theorem lv_p1 : Con Tryd.prog CtxP 18 [.sl [], .agg [.ex (.int .i64 0), .ex (.int .i64 3), .ex (.int .i64 0), .ex (.int .i64 1), .ex (.int .i64 0), .ex (.int .i64 0), .ex (.string ⟨#[97]⟩), .ex (.string ⟨#[]⟩), .sl [[.ex (.int .i64 1), .ex (.int .i64 5), .ex (.string ⟨#[69, 85, 82]⟩)], [.ex (.int .i64 1000), .ex (.int .i64 (-5)), .ex (.string ⟨#[69, 85, 82]⟩)]], .ex (.int .u64 0)]] (.val (.tup [.sl [[.ex (.int .i64 1), .ex (.int .i64 3), .ex (.int .i64 0), .ex (.int .i64 1), .ex (.int .i64 0), .ex (.int .i64 0), .ex (.string ⟨#[97]⟩), .ex (.string ⟨#[]⟩), .sl [[.ex (.int .i64 1), .ex (.int .i64 5), .ex (.string ⟨#[69, 85, 82]⟩)], [.ex (.int .i64 1000), .ex (.int .i64 (-5)), .ex (.string ⟨#[69, 85, 82]⟩)]], .ex (.int .u64 cA)]], .ex (.int .i64 0)])) := by
  have h := Post_con [] (oneV ⟨#[97]⟩ 3) (one_fit (one_sz _) in3) (by decide) fits_nil
  obtain ⟨r1, r2⟩ := post_ok ex_1
  rw [r1, r2] at h
  rw [show ([] : List EntV) ++ [sealE (oneV ⟨#[97]⟩ 3) ([] : List EntV).length (chainL [])] = [eA] from congrArg (fun x => [x]) eA_is, ents_A] at h
  exact h
theorem lv_p2 : Con Tryd.prog CtxP 18 [.sl [[.ex (.int .i64 1), .ex (.int .i64 3), .ex (.int .i64 0), .ex (.int .i64 1), .ex (.int .i64 0), .ex (.int .i64 0), .ex (.string ⟨#[97]⟩), .ex (.string ⟨#[]⟩), .sl [[.ex (.int .i64 1), .ex (.int .i64 5), .ex (.string ⟨#[69, 85, 82]⟩)], [.ex (.int .i64 1000), .ex (.int .i64 (-5)), .ex (.string ⟨#[69, 85, 82]⟩)]], .ex (.int .u64 cA)]], .agg [.ex (.int .i64 0), .ex (.int .i64 4), .ex (.int .i64 0), .ex (.int .i64 1), .ex (.int .i64 0), .ex (.int .i64 0), .ex (.string ⟨#[98]⟩), .ex (.string ⟨#[]⟩), .sl [[.ex (.int .i64 1), .ex (.int .i64 5), .ex (.string ⟨#[69, 85, 82]⟩)], [.ex (.int .i64 1000), .ex (.int .i64 (-5)), .ex (.string ⟨#[69, 85, 82]⟩)]], .ex (.int .u64 0)]] (.val (.tup [.sl [[.ex (.int .i64 1), .ex (.int .i64 3), .ex (.int .i64 0), .ex (.int .i64 1), .ex (.int .i64 0), .ex (.int .i64 0), .ex (.string ⟨#[97]⟩), .ex (.string ⟨#[]⟩), .sl [[.ex (.int .i64 1), .ex (.int .i64 5), .ex (.string ⟨#[69, 85, 82]⟩)], [.ex (.int .i64 1000), .ex (.int .i64 (-5)), .ex (.string ⟨#[69, 85, 82]⟩)]], .ex (.int .u64 cA)], [.ex (.int .i64 2), .ex (.int .i64 4), .ex (.int .i64 0), .ex (.int .i64 1), .ex (.int .i64 0), .ex (.int .i64 0), .ex (.string ⟨#[98]⟩), .ex (.string ⟨#[]⟩), .sl [[.ex (.int .i64 1), .ex (.int .i64 5), .ex (.string ⟨#[69, 85, 82]⟩)], [.ex (.int .i64 1000), .ex (.int .i64 (-5)), .ex (.string ⟨#[69, 85, 82]⟩)]], .ex (.int .u64 cB)]], .ex (.int .i64 0)])) := by
  have h := Post_con [eA] (oneV ⟨#[98]⟩ 4) (one_fit (one_sz _) in4) (by decide) fits_A
  obtain ⟨r1, r2⟩ := post_ok ex_2
  rw [r1, r2] at h
  rw [show [eA] ++ [sealE (oneV ⟨#[98]⟩ 4) [eA].length (chainL [eA])] = [eA, eB] from congrArg (fun x => [eA, x]) eB_is, ents_A, ents_AB] at h
  exact h
theorem lv_p3 : Con Tryd.prog CtxP 18 [.sl [[.ex (.int .i64 1), .ex (.int .i64 3), .ex (.int .i64 0), .ex (.int .i64 1), .ex (.int .i64 0), .ex (.int .i64 0), .ex (.string ⟨#[97]⟩), .ex (.string ⟨#[]⟩), .sl [[.ex (.int .i64 1), .ex (.int .i64 5), .ex (.string ⟨#[69, 85, 82]⟩)], [.ex (.int .i64 1000), .ex (.int .i64 (-5)), .ex (.string ⟨#[69, 85, 82]⟩)]], .ex (.int .u64 cA)]], .agg [.ex (.int .i64 0), .ex (.int .i64 9), .ex (.int .i64 0), .ex (.int .i64 1), .ex (.int .i64 0), .ex (.int .i64 0), .ex (.string ⟨#[97]⟩), .ex (.string ⟨#[]⟩), .sl [[.ex (.int .i64 1), .ex (.int .i64 5), .ex (.string ⟨#[69, 85, 82]⟩)], [.ex (.int .i64 1000), .ex (.int .i64 (-5)), .ex (.string ⟨#[69, 85, 82]⟩)]], .ex (.int .u64 0)]] (.val (.tup [.sl [], .ex (.int .i64 12)])) := by
  have h := Post_con [eA] (oneV ⟨#[97]⟩ 9) (one_fit (one_sz _) in9) (by decide) fits_A
  obtain ⟨r1, r2⟩ := post_no ex_3 (by decide)
  rw [r1, r2] at h
  rw [ents_A] at h
  exact h
theorem lv_p4 : Con Tryd.prog CtxP 18 [.sl [[.ex (.int .i64 1), .ex (.int .i64 3), .ex (.int .i64 0), .ex (.int .i64 1), .ex (.int .i64 0), .ex (.int .i64 0), .ex (.string ⟨#[97]⟩), .ex (.string ⟨#[]⟩), .sl [[.ex (.int .i64 1), .ex (.int .i64 5), .ex (.string ⟨#[69, 85, 82]⟩)], [.ex (.int .i64 1000), .ex (.int .i64 (-5)), .ex (.string ⟨#[69, 85, 82]⟩)]], .ex (.int .u64 cA)]], .agg [.ex (.int .i64 0), .ex (.int .i64 2), .ex (.int .i64 0), .ex (.int .i64 1), .ex (.int .i64 0), .ex (.int .i64 0), .ex (.string ⟨#[99]⟩), .ex (.string ⟨#[]⟩), .sl [[.ex (.int .i64 1), .ex (.int .i64 5), .ex (.string ⟨#[69, 85, 82]⟩)], [.ex (.int .i64 1000), .ex (.int .i64 (-5)), .ex (.string ⟨#[69, 85, 82]⟩)]], .ex (.int .u64 0)]] (.val (.tup [.sl [], .ex (.int .i64 10)])) := by
  have h := Post_con [eA] (oneV ⟨#[99]⟩ 2) (one_fit (one_sz _) in2) (by decide) fits_A
  obtain ⟨r1, r2⟩ := post_no ex_4 (by decide)
  rw [r1, r2] at h
  rw [ents_A] at h
  exact h
theorem lv_f : Con Tryd.prog CtxP 21 [.sl [[.ex (.int .i64 1), .ex (.int .i64 3), .ex (.int .i64 0), .ex (.int .i64 1), .ex (.int .i64 0), .ex (.int .i64 0), .ex (.string ⟨#[97]⟩), .ex (.string ⟨#[]⟩), .sl [[.ex (.int .i64 1), .ex (.int .i64 5), .ex (.string ⟨#[69, 85, 82]⟩)], [.ex (.int .i64 1000), .ex (.int .i64 (-5)), .ex (.string ⟨#[69, 85, 82]⟩)]], .ex (.int .u64 cA)]], .ex (.string ⟨#[97]⟩)] (.val (.tup [.agg [.ex (.int .i64 1), .ex (.int .i64 3), .ex (.int .i64 0), .ex (.int .i64 1), .ex (.int .i64 0), .ex (.int .i64 0), .ex (.string ⟨#[97]⟩), .ex (.string ⟨#[]⟩), .sl [[.ex (.int .i64 1), .ex (.int .i64 5), .ex (.string ⟨#[69, 85, 82]⟩)], [.ex (.int .i64 1000), .ex (.int .i64 (-5)), .ex (.string ⟨#[69, 85, 82]⟩)]], .ex (.int .u64 cA)], .ex (.bool true)])) := by
  have h := Find_con [eA] ⟨#[97]⟩ (by decide)
  rw [findE_at (j := [eA]) (k := 0) (e := eA) rfl (fun i y hi _ => by omega) (by kernel_rfl), ents_A] at h
  exact h
theorem lv_enc : Con Tryd.prog CtxP 32 [.agg [.ex (.int .i64 1), .ex (.int .i64 3), .ex (.int .i64 0), .ex (.int .i64 1), .ex (.int .i64 0), .ex (.int .i64 0), .ex (.string ⟨#[97]⟩), .ex (.string ⟨#[]⟩), .sl [[.ex (.int .i64 1), .ex (.int .i64 5), .ex (.string ⟨#[69, 85, 82]⟩)], [.ex (.int .i64 1000), .ex (.int .i64 (-5)), .ex (.string ⟨#[69, 85, 82]⟩)]], .ex (.int .u64 0)]] (.val (.ex (.string encA))) := by
  exact REncode_con (idE (oneV ⟨#[97]⟩ 3) 0) (idE_fit (one_fit (one_sz _) in3) (by decide)).rt.sm
theorem lv_chain : Con Tryd.prog CtxP 33 [.ex (.int .u64 0), .ex (.string encA)] (.val (.ex (.int .u64 cA))) := by
  exact RChain_con 0 encA (by unfold U64; decide) (Nat.le_trans (encE_size (idE_fit (one_fit (one_sz _) in3) (by decide)).rt) (by decide))
theorem ver_AB : verE [eA, eB] = -1 := by
  refine verE_end fun i y hy => ?_
  match i, hy with
  | 0, hy => cases hy; exact not_bad (exam_nil chk_A) (by rw [← eA_is]; rfl)
  | 1, hy => cases hy; exact not_bad (exam_ok' (j := [eA]) chk_B has_Ab (fun h => absurd h.2 (by show ¬ (4 : Int) < 3; decide)) (by show ¬ 4096 ≤ 1; decide)) (by rw [← eB_is]; rfl)
  | n + 2, hy => cases hy
theorem ver_BA : verE [eB, eA] = 0 := by
  refine verE_at (k := 0) (e := eB) rfl (fun i y hi _ => by omega) (.inr fun h => ?_)
  have := congrArg EntV.id h
  revert this
  show ¬ (1 : Int) = 2
  decide
theorem lv_v1 : Con Tryd.prog CtxP 28 [.sl [[.ex (.int .i64 1), .ex (.int .i64 3), .ex (.int .i64 0), .ex (.int .i64 1), .ex (.int .i64 0), .ex (.int .i64 0), .ex (.string ⟨#[97]⟩), .ex (.string ⟨#[]⟩), .sl [[.ex (.int .i64 1), .ex (.int .i64 5), .ex (.string ⟨#[69, 85, 82]⟩)], [.ex (.int .i64 1000), .ex (.int .i64 (-5)), .ex (.string ⟨#[69, 85, 82]⟩)]], .ex (.int .u64 cA)], [.ex (.int .i64 2), .ex (.int .i64 4), .ex (.int .i64 0), .ex (.int .i64 1), .ex (.int .i64 0), .ex (.int .i64 0), .ex (.string ⟨#[98]⟩), .ex (.string ⟨#[]⟩), .sl [[.ex (.int .i64 1), .ex (.int .i64 5), .ex (.string ⟨#[69, 85, 82]⟩)], [.ex (.int .i64 1000), .ex (.int .i64 (-5)), .ex (.string ⟨#[69, 85, 82]⟩)]], .ex (.int .u64 cB)]]] (.val (.ex (.int .i64 (-1)))) := by
  have h := Verify_con [eA, eB] (by decide) fits_AB
  rw [ver_AB, ents_AB] at h
  exact h
theorem lv_v2 : Con Tryd.prog CtxP 28 [.sl [[.ex (.int .i64 2), .ex (.int .i64 4), .ex (.int .i64 0), .ex (.int .i64 1), .ex (.int .i64 0), .ex (.int .i64 0), .ex (.string ⟨#[98]⟩), .ex (.string ⟨#[]⟩), .sl [[.ex (.int .i64 1), .ex (.int .i64 5), .ex (.string ⟨#[69, 85, 82]⟩)], [.ex (.int .i64 1000), .ex (.int .i64 (-5)), .ex (.string ⟨#[69, 85, 82]⟩)]], .ex (.int .u64 cB)], [.ex (.int .i64 1), .ex (.int .i64 3), .ex (.int .i64 0), .ex (.int .i64 1), .ex (.int .i64 0), .ex (.int .i64 0), .ex (.string ⟨#[97]⟩), .ex (.string ⟨#[]⟩), .sl [[.ex (.int .i64 1), .ex (.int .i64 5), .ex (.string ⟨#[69, 85, 82]⟩)], [.ex (.int .i64 1000), .ex (.int .i64 (-5)), .ex (.string ⟨#[69, 85, 82]⟩)]], .ex (.int .u64 cA)]]] (.val (.ex (.int .i64 0))) := by
  have h := Verify_con [eB, eA] (by decide) fits_BA
  rw [ver_BA, ents_BA] at h
  exact h
theorem lv_u : Con Tryd.prog CtxP 24 [.sl [[.ex (.int .i64 1), .ex (.int .i64 3), .ex (.int .i64 0), .ex (.int .i64 1), .ex (.int .i64 0), .ex (.int .i64 0), .ex (.string ⟨#[97]⟩), .ex (.string ⟨#[]⟩), .sl [[.ex (.int .i64 1), .ex (.int .i64 5), .ex (.string ⟨#[69, 85, 82]⟩)], [.ex (.int .i64 1000), .ex (.int .i64 (-5)), .ex (.string ⟨#[69, 85, 82]⟩)]], .ex (.int .u64 cA)], [.ex (.int .i64 2), .ex (.int .i64 4), .ex (.int .i64 0), .ex (.int .i64 1), .ex (.int .i64 0), .ex (.int .i64 0), .ex (.string ⟨#[98]⟩), .ex (.string ⟨#[]⟩), .sl [[.ex (.int .i64 1), .ex (.int .i64 5), .ex (.string ⟨#[69, 85, 82]⟩)], [.ex (.int .i64 1000), .ex (.int .i64 (-5)), .ex (.string ⟨#[69, 85, 82]⟩)]], .ex (.int .u64 cB)]], .ex (.int .i64 3)] (.val (.sl [[.ex (.int .i64 1), .ex (.int .i64 3), .ex (.int .i64 0), .ex (.int .i64 1), .ex (.int .i64 0), .ex (.int .i64 0), .ex (.string ⟨#[97]⟩), .ex (.string ⟨#[]⟩), .sl [[.ex (.int .i64 1), .ex (.int .i64 5), .ex (.string ⟨#[69, 85, 82]⟩)], [.ex (.int .i64 1000), .ex (.int .i64 (-5)), .ex (.string ⟨#[69, 85, 82]⟩)]], .ex (.int .u64 cA)]])) := by
  have h := Until_con [eA, eB] 3 (by decide)
  rw [show [eA, eB].filter (onDay 3) = [eA] from rfl, ents_A, ents_AB] at h
  exact h
theorem lv_s : Con Tryd.prog CtxP 30 [.sl [[.ex (.int .i64 1), .ex (.int .i64 3), .ex (.int .i64 0), .ex (.int .i64 1), .ex (.int .i64 0), .ex (.int .i64 0), .ex (.string ⟨#[97]⟩), .ex (.string ⟨#[]⟩), .sl [[.ex (.int .i64 1), .ex (.int .i64 5), .ex (.string ⟨#[69, 85, 82]⟩)], [.ex (.int .i64 1000), .ex (.int .i64 (-5)), .ex (.string ⟨#[69, 85, 82]⟩)]], .ex (.int .u64 cA)]], .sl [[.ex (.int .i64 1), .ex (.int .i64 3), .ex (.int .i64 0), .ex (.int .i64 1), .ex (.int .i64 0), .ex (.int .i64 0), .ex (.string ⟨#[97]⟩), .ex (.string ⟨#[]⟩), .sl [[.ex (.int .i64 1), .ex (.int .i64 5), .ex (.string ⟨#[69, 85, 82]⟩)], [.ex (.int .i64 1000), .ex (.int .i64 (-5)), .ex (.string ⟨#[69, 85, 82]⟩)]], .ex (.int .u64 cA)], [.ex (.int .i64 2), .ex (.int .i64 4), .ex (.int .i64 0), .ex (.int .i64 1), .ex (.int .i64 0), .ex (.int .i64 0), .ex (.string ⟨#[98]⟩), .ex (.string ⟨#[]⟩), .sl [[.ex (.int .i64 1), .ex (.int .i64 5), .ex (.string ⟨#[69, 85, 82]⟩)], [.ex (.int .i64 1000), .ex (.int .i64 (-5)), .ex (.string ⟨#[69, 85, 82]⟩)]], .ex (.int .u64 cB)]]] (.val (.ex (.bool false))) := by
  have h := JSame_con [eA] [eA, eB] (by decide) (fun e he => by rw [List.mem_singleton.1 he]; show 2 ≤ 100000000; decide)
  rw [decide_eq_false (fun h => by have := congrArg List.length h; revert this; decide), ents_A, ents_AB] at h
  exact h
theorem lv_r : Con Tryd.prog CtxP 26 [.sl [[.ex (.int .i64 1), .ex (.int .i64 3), .ex (.int .i64 0), .ex (.int .i64 1), .ex (.int .i64 0), .ex (.int .i64 0), .ex (.string ⟨#[97]⟩), .ex (.string ⟨#[]⟩), .sl [[.ex (.int .i64 1), .ex (.int .i64 5), .ex (.string ⟨#[69, 85, 82]⟩)], [.ex (.int .i64 1000), .ex (.int .i64 (-5)), .ex (.string ⟨#[69, 85, 82]⟩)]], .ex (.int .u64 cA)], [.ex (.int .i64 2), .ex (.int .i64 4), .ex (.int .i64 0), .ex (.int .i64 1), .ex (.int .i64 0), .ex (.int .i64 0), .ex (.string ⟨#[98]⟩), .ex (.string ⟨#[]⟩), .sl [[.ex (.int .i64 1), .ex (.int .i64 5), .ex (.string ⟨#[69, 85, 82]⟩)], [.ex (.int .i64 1000), .ex (.int .i64 (-5)), .ex (.string ⟨#[69, 85, 82]⟩)]], .ex (.int .u64 cB)]], .ex (.string ⟨#[97]⟩)] (.val (.ex (.bool false))) := by
  have h := Reversed_con [eA, eB] ⟨#[97]⟩ (by decide) (by show 1 ≤ 140737488355328; decide)
  rw [show revdE [eA, eB] ⟨#[97]⟩ = false by kernel_rfl, ents_AB] at h
  exact h
set_option maxHeartbeats 16000000 in
theorem live20_con : Con Tryd.prog CtxP 17 [] (.val (.ex (.bool true))) := by
  refine con_val base Tryd.func17 rfl rfl (by kernel_rfl) (Nat.le_of_ble_eq_true rfl) ?_
  rw [init_eq]
  have p1 := lv_p1
  have p2 := lv_p2
  have p3 := lv_p3
  have p4 := lv_p4
  have pf := lv_f
  have pe := lv_enc
  have pc := lv_chain
  have pv := lv_v1
  have pw := lv_v2
  have pu := lv_u
  have ps := lv_s
  have pr := lv_r
  generalize cA = a at *
  generalize cB = b at *
  generalize encA = E at *
  have hns : ∀ x es, noSl0 (.sl (x :: es)) = false := fun _ _ => rfl
  have hns3 : ∀ x es, noSl1 (.sl (x :: es)) = false := fun _ _ => rfl
  have hap : ∀ (x : Oper) l m, List.append (x :: l) m = x :: List.append l m := fun _ _ _ => rfl
  have hap0 : ∀ m : List Oper, List.append [] m = m := fun _ => rfl
  have hns2 : ∀ x es, noSl (.sl (x :: es)) = false := fun _ _ => rfl
  (repeat' (first | refine awp_seq ?_ | refine awp_block ?_ | (refine awp_ret ?_; simp only [then_ret, block_ret, end_ret]) | ((first | refine call_aggf (by first | (simp only [sxd, z0, p0, Nat.reduceEqDiff, ↓reduceIte]; (try rfl); done) | (simp (disch := omega) only [sxd, z0, p0, sx, Value.oneCell', ↓reduceIte, Nat.reduceAdd, Nat.reduceMul, Nat.reduceEqDiff, Nat.reduceLT, Nat.reduceLeDiff, Int.reduceToNat, Int.reduceEq, Int.reduceLT, Int.reduceLE, Int.reduceNe, *]; (try rfl); done)) (one_con _ _) ?_ | refine call_val (by first | (simp only [sxd, z0, p0, Nat.reduceEqDiff, ↓reduceIte]; (try rfl); done) | (simp (disch := omega) only [sxd, z0, p0, sx, Value.oneCell', ↓reduceIte, Nat.reduceAdd, Nat.reduceMul, Nat.reduceEqDiff, Nat.reduceLT, Nat.reduceLeDiff, Int.reduceToNat, Int.reduceEq, Int.reduceLT, Int.reduceLE, Int.reduceNe, *]; (try rfl); done)) (p1) ?_ | refine call_val (by first | (simp only [sxd, z0, p0, Nat.reduceEqDiff, ↓reduceIte]; (try rfl); done) | (simp (disch := omega) only [sxd, z0, p0, sx, Value.oneCell', ↓reduceIte, Nat.reduceAdd, Nat.reduceMul, Nat.reduceEqDiff, Nat.reduceLT, Nat.reduceLeDiff, Int.reduceToNat, Int.reduceEq, Int.reduceLT, Int.reduceLE, Int.reduceNe, *]; (try rfl); done)) (p2) ?_ | refine call_val (by first | (simp only [sxd, z0, p0, Nat.reduceEqDiff, ↓reduceIte]; (try rfl); done) | (simp (disch := omega) only [sxd, z0, p0, sx, Value.oneCell', ↓reduceIte, Nat.reduceAdd, Nat.reduceMul, Nat.reduceEqDiff, Nat.reduceLT, Nat.reduceLeDiff, Int.reduceToNat, Int.reduceEq, Int.reduceLT, Int.reduceLE, Int.reduceNe, *]; (try rfl); done)) (p3) ?_ | refine call_val (by first | (simp only [sxd, z0, p0, Nat.reduceEqDiff, ↓reduceIte]; (try rfl); done) | (simp (disch := omega) only [sxd, z0, p0, sx, Value.oneCell', ↓reduceIte, Nat.reduceAdd, Nat.reduceMul, Nat.reduceEqDiff, Nat.reduceLT, Nat.reduceLeDiff, Int.reduceToNat, Int.reduceEq, Int.reduceLT, Int.reduceLE, Int.reduceNe, *]; (try rfl); done)) (p4) ?_ | refine call_val (by first | (simp only [sxd, z0, p0, Nat.reduceEqDiff, ↓reduceIte]; (try rfl); done) | (simp (disch := omega) only [sxd, z0, p0, sx, Value.oneCell', ↓reduceIte, Nat.reduceAdd, Nat.reduceMul, Nat.reduceEqDiff, Nat.reduceLT, Nat.reduceLeDiff, Int.reduceToNat, Int.reduceEq, Int.reduceLT, Int.reduceLE, Int.reduceNe, *]; (try rfl); done)) (pf) ?_ | refine call_val (by first | (simp only [sxd, z0, p0, Nat.reduceEqDiff, ↓reduceIte]; (try rfl); done) | (simp (disch := omega) only [sxd, z0, p0, sx, Value.oneCell', ↓reduceIte, Nat.reduceAdd, Nat.reduceMul, Nat.reduceEqDiff, Nat.reduceLT, Nat.reduceLeDiff, Int.reduceToNat, Int.reduceEq, Int.reduceLT, Int.reduceLE, Int.reduceNe, *]; (try rfl); done)) (pe) ?_ | refine call_val (by first | (simp only [sxd, z0, p0, Nat.reduceEqDiff, ↓reduceIte]; (try rfl); done) | (simp (disch := omega) only [sxd, z0, p0, sx, Value.oneCell', ↓reduceIte, Nat.reduceAdd, Nat.reduceMul, Nat.reduceEqDiff, Nat.reduceLT, Nat.reduceLeDiff, Int.reduceToNat, Int.reduceEq, Int.reduceLT, Int.reduceLE, Int.reduceNe, *]; (try rfl); done)) (pc) ?_ | refine call_val (by first | (simp only [sxd, z0, p0, Nat.reduceEqDiff, ↓reduceIte]; (try rfl); done) | (simp (disch := omega) only [sxd, z0, p0, sx, Value.oneCell', ↓reduceIte, Nat.reduceAdd, Nat.reduceMul, Nat.reduceEqDiff, Nat.reduceLT, Nat.reduceLeDiff, Int.reduceToNat, Int.reduceEq, Int.reduceLT, Int.reduceLE, Int.reduceNe, *]; (try rfl); done)) (pv) ?_ | refine call_val (by first | (simp only [sxd, z0, p0, Nat.reduceEqDiff, ↓reduceIte]; (try rfl); done) | (simp (disch := omega) only [sxd, z0, p0, sx, Value.oneCell', ↓reduceIte, Nat.reduceAdd, Nat.reduceMul, Nat.reduceEqDiff, Nat.reduceLT, Nat.reduceLeDiff, Int.reduceToNat, Int.reduceEq, Int.reduceLT, Int.reduceLE, Int.reduceNe, *]; (try rfl); done)) (pw) ?_ | refine call_val (by first | (simp only [sxd, z0, p0, Nat.reduceEqDiff, ↓reduceIte]; (try rfl); done) | (simp (disch := omega) only [sxd, z0, p0, sx, Value.oneCell', ↓reduceIte, Nat.reduceAdd, Nat.reduceMul, Nat.reduceEqDiff, Nat.reduceLT, Nat.reduceLeDiff, Int.reduceToNat, Int.reduceEq, Int.reduceLT, Int.reduceLE, Int.reduceNe, *]; (try rfl); done)) (pu) ?_ | refine call_val (by first | (simp only [sxd, z0, p0, Nat.reduceEqDiff, ↓reduceIte]; (try rfl); done) | (simp (disch := omega) only [sxd, z0, p0, sx, Value.oneCell', ↓reduceIte, Nat.reduceAdd, Nat.reduceMul, Nat.reduceEqDiff, Nat.reduceLT, Nat.reduceLeDiff, Int.reduceToNat, Int.reduceEq, Int.reduceLT, Int.reduceLE, Int.reduceNe, *]; (try rfl); done)) (ps) ?_ | refine call_val (by first | (simp only [sxd, z0, p0, Nat.reduceEqDiff, ↓reduceIte]; (try rfl); done) | (simp (disch := omega) only [sxd, z0, p0, sx, Value.oneCell', ↓reduceIte, Nat.reduceAdd, Nat.reduceMul, Nat.reduceEqDiff, Nat.reduceLT, Nat.reduceLeDiff, Int.reduceToNat, Int.reduceEq, Int.reduceLT, Int.reduceLE, Int.reduceNe, *]; (try rfl); done)) (pr) ?_ | refine vplain ?_ | refine vdraws (by kernel_rfl) ?_ | refine vbuildS (by simp only [tyb, elemOf_s]) (by simp only [tyb, sxb, Value.oneCell', Nat.reduceAdd, Nat.reduceMul, Nat.reduceLeDiff, Nat.reduceLT]) ?_ | refine vcond ?_ | refine awp_exit ?_ | refine awp_skip ?_ | refine And.intro (by first | omega | assumption | exact setOk_ge (by decide +kernel) | exact setOk_late (by decide +kernel) (by (simp (disch := omega) only [sx, Value.oneCell', ↓reduceIte, Nat.reduceAdd, Nat.reduceMul, Nat.reduceEqDiff, Nat.reduceLT, Nat.reduceLeDiff, Int.reduceToNat, Int.reduceEq, Int.reduceLT, Int.reduceLE, Int.reduceNe, natS, *]; rfl)) (by refine wkR_row ?_; repeat' (first | exact trivial | refine wkL_c (by decide +kernel) ?_)) | exact Nat.le_of_ble_eq_true (by kernel_rfl)) ?_ | refine nqif_ways (fun h => ?_) ?_ | ((first | refine gif_ways (fun h => ?_) (fun h => ?_) | refine cif_ways (fun h => ?_) (fun h => ?_)) <;> (try simp only [sxn] at h) <;> (try (exfalso; omega)))) <;> (try (simp (maxSteps := 4000000) (disch := omega) only [sx, Value.oneCell', ↓reduceIte, Nat.reduceAdd, Nat.reduceMul, Nat.reduceEqDiff, Nat.reduceLT, Nat.reduceLeDiff, Int.reduceToNat, Int.reduceEq, Int.reduceLT, Int.reduceLE, Int.reduceNe, *])))))
  all_goals simp only [sxd, z0, p0, Nat.reduceEqDiff, ↓reduceIte, Tryd.f17, *]
end Go.Proofs.YtmnnphalljnmhaaDoor
