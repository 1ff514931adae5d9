/-
  Chapter 19, walked: the program's reversal. Conditions: those that each theorem states.
-/
import Derived.Test.YtmnnphalljnmhaaDoorC19M
import Derived.Test.YtmnnphalljnmhaaDoorGCon
namespace Go.Proofs.YtmnnphalljnmhaaDoor
open Go.RowKit
set_option maxRecDepth 100000
set_option linter.unusedSimpArgs false

def negL' (x : LegV) : LegV := ⟨x.account, IntKind.i64.wrap (0 - x.amount), x.cur⟩
def negs (l : List LegV) : List LegV := l.map negL'
def zeroE : EntV := ⟨0, 0, 0, 0, 0, 0, ⟨#[]⟩, ⟨#[]⟩, [], 0⟩
def revP : ByteArray := ⟨#[114, 101, 118, 101, 114, 115, 101, 32]⟩
def revG (e : EntV) (key : ByteArray) (booked : Int) : EntV := ⟨0, booked, e.value, 11, 0, 0, key, revP ++ e.key, negs e.legs, 0⟩
def revOk (e : EntV) (key : ByteArray) (booked : Int) : Bool := decide (checkE e = 0) && keyB key && dayB booked
def revE (e : EntV) (key : ByteArray) (booked : Int) : EntV × Int := if revOk e key booked = true then (revG e key booked, 0) else (zeroE, 1)
theorem negs_next {l : List LegV} {k : Nat} {x : LegV} (e : l[k]? = some x) : legsC (negs (l.take k)) ++ [[.ex (.int .i64 x.account), .ex (.int .i64 (IntKind.i64.wrap (0 - x.amount))), .ex (.string x.cur)]] = legsC (negs (l.take (k + 1))) := by
  rw [List.take_add_one, e]
  simp [negs, legsC, legC, negL']
theorem negs_len (l : List LegV) : (negs l).length = l.length := by simp [negs]
theorem Negated_con (l : List LegV) (hl : l.length ≤ 1000) : Con Tryd.prog CtxP 81 [.sl (legsC l)] (.val (.sl (legsC (negs l)))) := by
  refine con_val base Tryd.func81 rfl rfl (by kernel_rfl) (Nat.le_of_ble_eq_true rfl) ?_
  rw [init_eq]
  have q1 := legs_len l
  (repeat' (first | refine awp_seq ?_ | refine awp_block ?_ | (refine awp_ret ?_; simp only [then_ret, block_ret, end_ret]) | ((first | refine vplain ?_ | refine vdraws (by kernel_rfl) ?_ | refine vbuildS (by simp only [tyb, elemOf_s]) (by simp only [tyb, sxb, Value.oneCell', Nat.reduceAdd, Nat.reduceMul, Nat.reduceLeDiff, Nat.reduceLT]) ?_ | refine vcond ?_ | refine awp_exit ?_ | refine awp_skip ?_ | refine And.intro (by first | omega | assumption | exact setOk_ge (by decide +kernel) | exact setOk_late (by decide +kernel) (by (simp (disch := omega) only [sx, Value.oneCell', ↓reduceIte, Nat.reduceAdd, Nat.reduceMul, Nat.reduceEqDiff, Nat.reduceLT, Nat.reduceLeDiff, Int.reduceToNat, Int.reduceEq, Int.reduceLT, Int.reduceLE, Int.reduceNe, natS, *]; rfl)) (by refine wkR_row ?_; repeat' (first | exact trivial | refine wkL_c (by decide +kernel) ?_)) | exact Nat.le_of_ble_eq_true (by kernel_rfl)) ?_ | refine nqif_ways (fun h => ?_) ?_ | ((first | refine gif_ways (fun h => ?_) (fun h => ?_) | refine cif_ways (fun h => ?_) (fun h => ?_)) <;> (try simp only [sxn] at h) <;> (try (exfalso; omega)))) <;> (try (simp (disch := omega) only [sx, Value.oneCell', ↓reduceIte, Nat.reduceAdd, Nat.reduceMul, Nat.reduceEqDiff, Nat.reduceLT, Nat.reduceLeDiff, Int.reduceToNat, Int.reduceEq, Int.reduceLT, Int.reduceLE, Int.reduceNe, *])))))
  refine vloop (fun n tm hp nx => ∃ (k b : Nat), n = l.length - k ∧ k ≤ l.length ∧ tm 0 = .sl (legsC l) ∧ tm 4 = .ex (.int .i64 k) ∧ tm 3 = .own b ∧ hp b = some ⟨62, legsC (negs (l.take k)), true⟩ ∧ b < nx) l.length ⟨0, _, rfl, Nat.zero_le _, by (first | rfl | (simp (disch := omega) only [sx, natS, ↓reduceIte, Nat.reduceAdd, Nat.reduceEqDiff, Nat.reduceLeDiff, *])), by (first | rfl | (simp (disch := omega) only [sx, natS, ↓reduceIte, Nat.reduceAdd, Nat.reduceEqDiff, Nat.reduceLeDiff, *])), by (first | rfl | (simp (disch := omega) only [sx, natS, ↓reduceIte, Nat.reduceAdd, Nat.reduceEqDiff, Nat.reduceLeDiff, *])), by (simp (disch := omega) only [sx, natS, ↓reduceIte, Nat.reduceAdd, Nat.reduceEqDiff, Nat.reduceLeDiff, *]; (try rfl)), by omega⟩ ?_
  rintro n tm hp nx ⟨k, b, hn, hk, g0, g4, g3, gh, hb⟩
  by_cases hlt : k < l.length
  · have e0 : l[k]? = some l[k] := List.getElem?_eq_getElem hlt
    generalize l[k] = x at e0
    have q4 := legs_get e0
    have q5 : (legsC (negs (l.take k))).length = k := by rw [legs_len, negs_len, List.length_take]; omega
    have hA := negs_next e0
    clear e0
    (repeat' (first | refine awp_seq ?_ | refine awp_block ?_ | (refine awp_ret ?_; simp only [then_ret, block_ret, end_ret]) | ((first | refine vplain ?_ | refine vdraws (by kernel_rfl) ?_ | refine vbuildS (by simp only [tyb, elemOf_s]) (by simp only [tyb, sxb, Value.oneCell', Nat.reduceAdd, Nat.reduceMul, Nat.reduceLeDiff, Nat.reduceLT]) ?_ | refine vcond ?_ | refine awp_exit ?_ | refine awp_skip ?_ | refine And.intro (by first | omega | assumption | exact setOk_ge (by decide +kernel) | exact setOk_late (by decide +kernel) (by (simp (disch := omega) only [sx, Value.oneCell', ↓reduceIte, Nat.reduceAdd, Nat.reduceMul, Nat.reduceEqDiff, Nat.reduceLT, Nat.reduceLeDiff, Int.reduceToNat, Int.reduceEq, Int.reduceLT, Int.reduceLE, Int.reduceNe, natS, *]; rfl)) (by refine wkR_row ?_; repeat' (first | exact trivial | refine wkL_c (by decide +kernel) ?_)) | exact Nat.le_of_ble_eq_true (by kernel_rfl)) ?_ | refine nqif_ways (fun h => ?_) ?_ | ((first | refine gif_ways (fun h => ?_) (fun h => ?_) | refine cif_ways (fun h => ?_) (fun h => ?_)) <;> (try simp only [sxn] at h) <;> (try (exfalso; omega)))) <;> (try (simp (disch := omega) only [sx, Value.oneCell', ↓reduceIte, Nat.reduceAdd, Nat.reduceMul, Nat.reduceEqDiff, Nat.reduceLT, Nat.reduceLeDiff, Int.reduceToNat, Int.reduceEq, Int.reduceLT, Int.reduceLE, Int.reduceNe, *])))))
    exact kround_i (l.length - (k + 1)) (by omega) ⟨k + 1, _, rfl, by omega, by (first | rfl | (simp (disch := omega) only [sx, natS, ↓reduceIte, Nat.reduceAdd, Nat.reduceEqDiff, Nat.reduceLeDiff, *])), by (first | rfl | (simp (disch := omega) only [sx, natS, ↓reduceIte, Nat.reduceAdd, Nat.reduceEqDiff, Nat.reduceLeDiff, *])), by (first | rfl | (simp (disch := omega) only [sx, natS, ↓reduceIte, Nat.reduceAdd, Nat.reduceEqDiff, Nat.reduceLeDiff, *])), by (simp (disch := omega) only [sx, natS, ↓reduceIte, Nat.reduceAdd, Nat.reduceEqDiff, Nat.reduceLeDiff, *]; (try rfl)), by omega⟩
  · have hke : l.take k = l := List.take_of_length_le (by omega)
    have f1 := legs_all (negs l)
    have f3 := legs_z0 (negs l)
    (repeat' (first | refine awp_seq ?_ | refine awp_block ?_ | (refine awp_ret ?_; simp only [then_ret, block_ret, end_ret]) | ((first | refine vplain ?_ | refine vdraws (by kernel_rfl) ?_ | refine vbuildS (by simp only [tyb, elemOf_s]) (by simp only [tyb, sxb, Value.oneCell', Nat.reduceAdd, Nat.reduceMul, Nat.reduceLeDiff, Nat.reduceLT]) ?_ | refine vcond ?_ | refine awp_exit ?_ | refine awp_skip ?_ | refine And.intro (by first | omega | assumption | exact setOk_ge (by decide +kernel) | exact setOk_late (by decide +kernel) (by (simp (disch := omega) only [sx, Value.oneCell', ↓reduceIte, Nat.reduceAdd, Nat.reduceMul, Nat.reduceEqDiff, Nat.reduceLT, Nat.reduceLeDiff, Int.reduceToNat, Int.reduceEq, Int.reduceLT, Int.reduceLE, Int.reduceNe, natS, *]; rfl)) (by refine wkR_row ?_; repeat' (first | exact trivial | refine wkL_c (by decide +kernel) ?_)) | exact Nat.le_of_ble_eq_true (by kernel_rfl)) ?_ | refine nqif_ways (fun h => ?_) ?_ | ((first | refine gif_ways (fun h => ?_) (fun h => ?_) | refine cif_ways (fun h => ?_) (fun h => ?_)) <;> (try simp only [sxn] at h) <;> (try (exfalso; omega)))) <;> (try (simp (disch := omega) only [sx, Value.oneCell', ↓reduceIte, Nat.reduceAdd, Nat.reduceMul, Nat.reduceEqDiff, Nat.reduceLT, Nat.reduceLeDiff, Int.reduceToNat, Int.reduceEq, Int.reduceLT, Int.reduceLE, Int.reduceNe, *])))))
    all_goals simp only [sxd, z0, p0, Nat.reduceEqDiff, ↓reduceIte, Tryd.f81, *]
theorem rev_no {e : EntV} {key : ByteArray} {booked : Int} (h : revOk e key booked = false) : (revE e key booked).1 = zeroE ∧ (revE e key booked).2 = 1 := by unfold revE; rw [h]; exact ⟨rfl, rfl⟩
theorem rev_yes {e : EntV} {key : ByteArray} {booked : Int} (h : revOk e key booked = true) : (revE e key booked).1 = revG e key booked ∧ (revE e key booked).2 = 0 := by unfold revE; rw [h]; exact ⟨rfl, rfl⟩
theorem legs_nil : legsC [] = [] := rfl
theorem chk_legs {e : EntV} (h : checkE e = 0) : 2 ≤ e.legs.length ∧ e.legs.length ≤ 12 := by
  unfold checkE at h
  split at h
  · cases h
  split at h
  · cases h
  split at h
  · cases h
  split at h
  · cases h
  · omega

set_option maxHeartbeats 4000000 in
theorem Reverse_con (e : EntV) (key : ByteArray) (booked : Int) (hok : e.Ok) (hkey : key.size ≤ 9223372036854775807) : Con Tryd.prog CtxP 44 [.agg [.ex (.int .i64 e.id), .ex (.int .i64 e.booked), .ex (.int .i64 e.value), .ex (.int .i64 e.kind), .ex (.int .i64 e.auth), .ex (.int .i64 e.period), .ex (.string e.key), .ex (.string e.text), .sl (legsC e.legs), .ex (.int .u64 e.chain)], .ex (.string key), .ex (.int .i64 booked)]
    (.val (.tup [.agg [.ex (.int .i64 (revE e key booked).1.id), .ex (.int .i64 (revE e key booked).1.booked), .ex (.int .i64 (revE e key booked).1.value), .ex (.int .i64 (revE e key booked).1.kind), .ex (.int .i64 (revE e key booked).1.auth), .ex (.int .i64 (revE e key booked).1.period), .ex (.string (revE e key booked).1.key), .ex (.string (revE e key booked).1.text), .sl (legsC (revE e key booked).1.legs), .ex (.int .u64 (revE e key booked).1.chain)], .ex (.int .i64 (revE e key booked).2)])) := by
  have c1 := Check_con e hok
  have c2 := key_con key hkey
  have c3 := day_con booked
  have hek : e.key.size ≤ 140737488355328 := hok.k
  have hel := hok.n
  have hsz : (⟨#[114, 101, 118, 101, 114, 115, 101, 32]⟩ : ByteArray).size + e.key.size ≤ 9223372036854775807 := by have : (⟨#[114, 101, 118, 101, 114, 115, 101, 32]⟩ : ByteArray).size = 8 := rfl; omega
  clear hok
  by_cases h1 : checkE e = 0
  · cases h2 : keyB key with
    | false =>
      obtain ⟨r1, r2⟩ := rev_no (e := e) (key := key) (booked := booked) (by unfold revOk; rw [h2]; simp)
      rw [r1, r2]
      rw [h1] at c1
      rw [h2] at c2
      unfold zeroE
      rw [legs_nil]
      (refine con_val base Tryd.func44 rfl rfl (by kernel_rfl) (Nat.le_of_ble_eq_true rfl) ?_; rw [init_eq])
      clear h1 h2
      (repeat' (first | refine awp_seq ?_ | refine awp_block ?_ | (refine awp_ret ?_; simp only [then_ret, block_ret, end_ret]) | ((first | refine call_val (by first | (simp only [sxd, z0, p0, Nat.reduceEqDiff, ↓reduceIte]; (try rfl); done) | (simp (disch := omega) only [sxd, z0, p0, sx, Value.oneCell', ↓reduceIte, Nat.reduceAdd, Nat.reduceMul, Nat.reduceEqDiff, Nat.reduceLT, Nat.reduceLeDiff, Int.reduceToNat, Int.reduceEq, Int.reduceLT, Int.reduceLE, Int.reduceNe, *]; (try rfl); done)) (c1) ?_ | refine call_val (by first | (simp only [sxd, z0, p0, Nat.reduceEqDiff, ↓reduceIte]; (try rfl); done) | (simp (disch := omega) only [sxd, z0, p0, sx, Value.oneCell', ↓reduceIte, Nat.reduceAdd, Nat.reduceMul, Nat.reduceEqDiff, Nat.reduceLT, Nat.reduceLeDiff, Int.reduceToNat, Int.reduceEq, Int.reduceLT, Int.reduceLE, Int.reduceNe, *]; (try rfl); done)) (c2) ?_ | refine vplain ?_ | refine vbuildS (by simp only [tyb, elemOf_s]) (by simp only [tyb, sxb, Value.oneCell', Nat.reduceAdd, Nat.reduceMul, Nat.reduceLeDiff, Nat.reduceLT]) ?_ | refine vcond ?_ | refine awp_exit ?_ | refine awp_skip ?_ | refine And.intro (by first | omega | assumption | exact setOk_ge (by decide +kernel)) ?_ | refine nqif_ways (fun h => ?_) ?_ | ((first | refine gif_ways (fun h => ?_) (fun h => ?_) | refine cif_ways (fun h => ?_) (fun h => ?_)) <;> (try simp only [sxn] at h) <;> (try (exfalso; omega)))) <;> (try (simp (disch := omega) only [sx, Value.oneCell', ↓reduceIte, Nat.reduceAdd, Nat.reduceMul, Nat.reduceEqDiff, Nat.reduceLT, Nat.reduceLeDiff, Int.reduceToNat, Int.reduceEq, Int.reduceLT, Int.reduceLE, Int.reduceNe, *])))))
      all_goals (refine aretc_2 rfl (by (simp (disch := omega) only [sx, natS, ↓reduceIte, Nat.reduceAdd, Nat.reduceEqDiff, Nat.reduceLeDiff, *]; (try rfl))) (by (simp (disch := omega) only [sx, natS, ↓reduceIte, Nat.reduceAdd, Nat.reduceEqDiff, Nat.reduceLeDiff, *]; (try rfl))) (by first | rfl | (simp (disch := omega) only [sx, natS, ↓reduceIte, Nat.reduceAdd, Nat.reduceEqDiff, Nat.reduceLeDiff, *]; (try rfl))) (by simp only [ATy.isAgg, tyb]) (by simp only [tyb]; rfl) (by exact Nat.zero_lt_succ _) (by (simp (disch := omega) only [sx, natS, ↓reduceIte, Nat.reduceAdd, Nat.reduceEqDiff, Nat.reduceLeDiff, *]; (try rfl))) (by simp only [sxd, z0, p0, Nat.reduceEqDiff, ↓reduceIte]; rfl) ?_)
      all_goals first | rfl | simp only [*]
    | true =>
      cases h3 : dayB booked with
      | false =>
        obtain ⟨r1, r2⟩ := rev_no (e := e) (key := key) (booked := booked) (by unfold revOk; rw [h3]; simp)
        rw [r1, r2]
        rw [h1] at c1
        rw [h2] at c2
        rw [h3] at c3
        unfold zeroE
        rw [legs_nil]
        (refine con_val base Tryd.func44 rfl rfl (by kernel_rfl) (Nat.le_of_ble_eq_true rfl) ?_; rw [init_eq])
        clear h1 h2 h3
        (repeat' (first | refine awp_seq ?_ | refine awp_block ?_ | (refine awp_ret ?_; simp only [then_ret, block_ret, end_ret]) | ((first | refine call_val (by first | (simp only [sxd, z0, p0, Nat.reduceEqDiff, ↓reduceIte]; (try rfl); done) | (simp (disch := omega) only [sxd, z0, p0, sx, Value.oneCell', ↓reduceIte, Nat.reduceAdd, Nat.reduceMul, Nat.reduceEqDiff, Nat.reduceLT, Nat.reduceLeDiff, Int.reduceToNat, Int.reduceEq, Int.reduceLT, Int.reduceLE, Int.reduceNe, *]; (try rfl); done)) (c1) ?_ | refine call_val (by first | (simp only [sxd, z0, p0, Nat.reduceEqDiff, ↓reduceIte]; (try rfl); done) | (simp (disch := omega) only [sxd, z0, p0, sx, Value.oneCell', ↓reduceIte, Nat.reduceAdd, Nat.reduceMul, Nat.reduceEqDiff, Nat.reduceLT, Nat.reduceLeDiff, Int.reduceToNat, Int.reduceEq, Int.reduceLT, Int.reduceLE, Int.reduceNe, *]; (try rfl); done)) (c2) ?_ | refine call_val (by first | (simp only [sxd, z0, p0, Nat.reduceEqDiff, ↓reduceIte]; (try rfl); done) | (simp (disch := omega) only [sxd, z0, p0, sx, Value.oneCell', ↓reduceIte, Nat.reduceAdd, Nat.reduceMul, Nat.reduceEqDiff, Nat.reduceLT, Nat.reduceLeDiff, Int.reduceToNat, Int.reduceEq, Int.reduceLT, Int.reduceLE, Int.reduceNe, *]; (try rfl); done)) (c3) ?_ | refine vplain ?_ | refine vbuildS (by simp only [tyb, elemOf_s]) (by simp only [tyb, sxb, Value.oneCell', Nat.reduceAdd, Nat.reduceMul, Nat.reduceLeDiff, Nat.reduceLT]) ?_ | refine vcond ?_ | refine awp_exit ?_ | refine awp_skip ?_ | refine And.intro (by first | omega | assumption | exact setOk_ge (by decide +kernel)) ?_ | refine nqif_ways (fun h => ?_) ?_ | ((first | refine gif_ways (fun h => ?_) (fun h => ?_) | refine cif_ways (fun h => ?_) (fun h => ?_)) <;> (try simp only [sxn] at h) <;> (try (exfalso; omega)))) <;> (try (simp (disch := omega) only [sx, Value.oneCell', ↓reduceIte, Nat.reduceAdd, Nat.reduceMul, Nat.reduceEqDiff, Nat.reduceLT, Nat.reduceLeDiff, Int.reduceToNat, Int.reduceEq, Int.reduceLT, Int.reduceLE, Int.reduceNe, *])))))
        all_goals (refine aretc_2 rfl (by (simp (disch := omega) only [sx, natS, ↓reduceIte, Nat.reduceAdd, Nat.reduceEqDiff, Nat.reduceLeDiff, *]; (try rfl))) (by (simp (disch := omega) only [sx, natS, ↓reduceIte, Nat.reduceAdd, Nat.reduceEqDiff, Nat.reduceLeDiff, *]; (try rfl))) (by first | rfl | (simp (disch := omega) only [sx, natS, ↓reduceIte, Nat.reduceAdd, Nat.reduceEqDiff, Nat.reduceLeDiff, *]; (try rfl))) (by simp only [ATy.isAgg, tyb]) (by simp only [tyb]; rfl) (by exact Nat.zero_lt_succ _) (by (simp (disch := omega) only [sx, natS, ↓reduceIte, Nat.reduceAdd, Nat.reduceEqDiff, Nat.reduceLeDiff, *]; (try rfl))) (by simp only [sxd, z0, p0, Nat.reduceEqDiff, ↓reduceIte]; rfl) ?_)
        all_goals first | rfl | simp only [*]
      | true =>
        obtain ⟨r1, r2⟩ := rev_yes (e := e) (key := key) (booked := booked) (by unfold revOk; rw [h1, h2, h3]; rfl)
        have hle := chk_legs h1
        rw [r1, r2]
        rw [h1] at c1
        rw [h2] at c2
        rw [h3] at c3
        unfold revG revP
        (refine con_val base Tryd.func44 rfl rfl (by kernel_rfl) (Nat.le_of_ble_eq_true rfl) ?_; rw [init_eq])
        clear h1 h2 h3 r1 r2

        have q1 := legs_len e.legs
        (repeat' (first | refine awp_seq ?_ | refine awp_block ?_ | (refine awp_ret ?_; simp only [then_ret, block_ret, end_ret]) | ((first | refine call_val (by first | (simp only [sxd, z0, p0, Nat.reduceEqDiff, ↓reduceIte]; (try rfl); done) | (simp (disch := omega) only [sxd, z0, p0, sx, Value.oneCell', ↓reduceIte, Nat.reduceAdd, Nat.reduceMul, Nat.reduceEqDiff, Nat.reduceLT, Nat.reduceLeDiff, Int.reduceToNat, Int.reduceEq, Int.reduceLT, Int.reduceLE, Int.reduceNe, *]; (try rfl); done)) (c1) ?_ | refine call_val (by first | (simp only [sxd, z0, p0, Nat.reduceEqDiff, ↓reduceIte]; (try rfl); done) | (simp (disch := omega) only [sxd, z0, p0, sx, Value.oneCell', ↓reduceIte, Nat.reduceAdd, Nat.reduceMul, Nat.reduceEqDiff, Nat.reduceLT, Nat.reduceLeDiff, Int.reduceToNat, Int.reduceEq, Int.reduceLT, Int.reduceLE, Int.reduceNe, *]; (try rfl); done)) (c2) ?_ | refine call_val (by first | (simp only [sxd, z0, p0, Nat.reduceEqDiff, ↓reduceIte]; (try rfl); done) | (simp (disch := omega) only [sxd, z0, p0, sx, Value.oneCell', ↓reduceIte, Nat.reduceAdd, Nat.reduceMul, Nat.reduceEqDiff, Nat.reduceLT, Nat.reduceLeDiff, Int.reduceToNat, Int.reduceEq, Int.reduceLT, Int.reduceLE, Int.reduceNe, *]; (try rfl); done)) (c3) ?_ | refine vplain ?_ | refine vbuildS (by simp only [tyb, elemOf_s]) (by simp only [tyb, sxb, Value.oneCell', Nat.reduceAdd, Nat.reduceMul, Nat.reduceLeDiff, Nat.reduceLT]) ?_ | refine vcond ?_ | refine awp_exit ?_ | refine awp_skip ?_ | refine And.intro (by first | omega | assumption | exact setOk_ge (by decide +kernel)) ?_ | refine nqif_ways (fun h => ?_) ?_ | ((first | refine gif_ways (fun h => ?_) (fun h => ?_) | refine cif_ways (fun h => ?_) (fun h => ?_)) <;> (try simp only [sxn] at h) <;> (try (exfalso; omega)))) <;> (try (simp (maxSteps := 4000000) (disch := omega) only [sx, Value.oneCell', ↓reduceIte, Nat.reduceAdd, Nat.reduceMul, Nat.reduceEqDiff, Nat.reduceLT, Nat.reduceLeDiff, Int.reduceToNat, Int.reduceEq, Int.reduceLT, Int.reduceLE, Int.reduceNe, *])))))
        refine vloop (fun n tm hp nx => ∃ (k b6 b8 : Nat) (L : AV), n = e.legs.length - k ∧ k ≤ e.legs.length ∧ tm 6 = .pt b6 0 0 ∧ hp b6 = some ⟨26, [[.ex (.int .i64 0), .ex (.int .i64 0), .ex (.int .i64 0), .ex (.int .i64 0), .ex (.int .i64 0), .ex (.int .i64 0), .ex (.string ⟨#[]⟩), .ex (.string ⟨#[]⟩), .ex (.slice none 0 0), .ex (.int .u64 0)]], true⟩ ∧ b6 < nx ∧ tm 8 = .pt b8 0 0 ∧
          hp b8 = some ⟨26, [[.ex (.int .i64 0), .ex (.int .i64 booked), .ex (.int .i64 e.value), .ex (.int .i64 11), .ex (.int .i64 0), .ex (.int .i64 0), .ex (.string key), .ex (.string (⟨#[114, 101, 118, 101, 114, 115, 101, 32]⟩ ++ e.key)), L, .ex (.int .u64 0)]], true⟩ ∧ b8 < nx ∧ ¬ b6 = b8 ∧ ¬ b8 = b6 ∧
          tm 34 = .sl (legsC e.legs) ∧ tm 35 = .ex (.int .i64 e.legs.length) ∧ tm 36 = .ex (.int .i64 k) ∧ ((Hid (k = 0) ∧ L = .ex (.slice none 0 0)) ∨ (0 < k ∧ ∃ b, L = .own b ∧ hp b = some ⟨62, legsC (negs (e.legs.take k)), true⟩ ∧ b < nx ∧ ¬ b = b6 ∧ ¬ b6 = b ∧ ¬ b = b8 ∧ ¬ b8 = b))) e.legs.length ⟨0, _, _, _, rfl, Nat.zero_le _, by (simp (disch := omega) only [sx, natS, ↓reduceIte, Nat.reduceAdd, Nat.reduceEqDiff, Nat.reduceLeDiff, *]; (try rfl)), by (simp (disch := omega) only [sx, natS, ↓reduceIte, Nat.reduceAdd, Nat.reduceEqDiff, Nat.reduceLeDiff, *]; (try rfl)), by omega, by (simp (disch := omega) only [sx, natS, ↓reduceIte, Nat.reduceAdd, Nat.reduceEqDiff, Nat.reduceLeDiff, *]; (try rfl)), by (simp (disch := omega) only [sx, natS, ↓reduceIte, Nat.reduceAdd, Nat.reduceEqDiff, Nat.reduceLeDiff, *]; (try rfl)), by omega, by omega, by omega, by (first | rfl | (simp (disch := omega) only [sx, natS, ↓reduceIte, Nat.reduceAdd, Nat.reduceEqDiff, Nat.reduceLeDiff, *])), by (first | rfl | (simp (disch := omega) only [sx, natS, ↓reduceIte, Nat.reduceAdd, Nat.reduceEqDiff, Nat.reduceLeDiff, *])), by (first | rfl | (simp (disch := omega) only [sx, natS, ↓reduceIte, Nat.reduceAdd, Nat.reduceEqDiff, Nat.reduceLeDiff, *])), .inl ⟨Lib.hid rfl, rfl⟩⟩ ?_
        clear c1 c2 c3
        rintro n tm hp nx ⟨k, b6, b8, L, hn, hk, g6, gh6, hb6, g8, gh8, hb8, hn1, hn2, g34, g35, g36, hL⟩
        by_cases hlt : k < e.legs.length
        · have e0 : e.legs[k]? = some e.legs[k] := List.getElem?_eq_getElem hlt
          generalize e.legs[k] = x at e0
          have q4 := legs_get e0
          have hA := negs_next e0
          have q5 : (legsC (negs (e.legs.take k))).length = k := by rw [legs_len, negs_len, List.length_take]; omega
          clear e0
          rcases hL with ⟨hk0, rfl⟩ | ⟨hk0, b, rfl, gh, hb, n1, n2, n3, n4⟩
          · have hk0 := hk0.out
            subst hk0
            rw [show legsC (negs (e.legs.take 0)) = [] from rfl, List.nil_append] at hA
            have hA2 := Lib.hid hA
            clear hA
            (repeat' (first | refine awp_seq ?_ | refine awp_block ?_ | (refine awp_ret ?_; simp only [then_ret, block_ret, end_ret]) | ((first | refine vplain ?_ | refine vbuildS (by simp only [tyb, elemOf_s]) (by simp only [tyb, sxb, Value.oneCell', Nat.reduceAdd, Nat.reduceMul, Nat.reduceLeDiff, Nat.reduceLT]) ?_ | refine vcond ?_ | refine awp_exit ?_ | refine awp_skip ?_ | refine And.intro (by first | omega | assumption | exact setOk_ge (by decide +kernel)) ?_ | refine nqif_ways (fun h => ?_) ?_ | ((first | refine gif_ways (fun h => ?_) (fun h => ?_) | refine cif_ways (fun h => ?_) (fun h => ?_)) <;> (try simp only [sxn] at h) <;> (try (exfalso; omega)))) <;> (try (simp (maxSteps := 4000000) (disch := omega) only [sx, Value.oneCell', ↓reduceIte, Nat.reduceAdd, Nat.reduceMul, Nat.reduceEqDiff, Nat.reduceLT, Nat.reduceLeDiff, Int.reduceToNat, Int.reduceEq, Int.reduceLT, Int.reduceLE, Int.reduceNe, *])))))
            exact kround_i (e.legs.length - (0 + 1)) (by omega) ⟨0 + 1, b6, b8, _, rfl, by omega, by (simp (disch := omega) only [sx, natS, ↓reduceIte, Nat.reduceAdd, Nat.reduceEqDiff, Nat.reduceLeDiff, *]; (try rfl)), by (simp (disch := omega) only [sx, natS, ↓reduceIte, Nat.reduceAdd, Nat.reduceEqDiff, Nat.reduceLeDiff, *]; (try rfl)), by omega, by (simp (disch := omega) only [sx, natS, ↓reduceIte, Nat.reduceAdd, Nat.reduceEqDiff, Nat.reduceLeDiff, *]; (try rfl)), by (simp (disch := omega) only [sx, natS, ↓reduceIte, Nat.reduceAdd, Nat.reduceEqDiff, Nat.reduceLeDiff, *]; (try rfl)), by omega, hn1, hn2, by (first | rfl | (simp (disch := omega) only [sx, natS, ↓reduceIte, Nat.reduceAdd, Nat.reduceEqDiff, Nat.reduceLeDiff, *])), by (first | rfl | (simp (disch := omega) only [sx, natS, ↓reduceIte, Nat.reduceAdd, Nat.reduceEqDiff, Nat.reduceLeDiff, *])), by (simp (disch := omega) only [sx, natS, ↓reduceIte, Nat.reduceAdd, Nat.reduceEqDiff, Nat.reduceLeDiff, *]; (try rfl)), .inr ⟨by omega, _, rfl, by (rw [← hA2.out]; (simp (disch := omega) only [sx, natS, ↓reduceIte, Nat.reduceAdd, Nat.reduceEqDiff, Nat.reduceLeDiff, *]; (try rfl))), by omega, by omega, by omega, by omega, by omega⟩⟩
          · (repeat' (first | refine awp_seq ?_ | refine awp_block ?_ | (refine awp_ret ?_; simp only [then_ret, block_ret, end_ret]) | ((first | refine vplain ?_ | refine vbuildS (by simp only [tyb, elemOf_s]) (by simp only [tyb, sxb, Value.oneCell', Nat.reduceAdd, Nat.reduceMul, Nat.reduceLeDiff, Nat.reduceLT]) ?_ | refine vcond ?_ | refine awp_exit ?_ | refine awp_skip ?_ | refine And.intro (by first | omega | assumption | exact setOk_ge (by decide +kernel)) ?_ | refine nqif_ways (fun h => ?_) ?_ | ((first | refine gif_ways (fun h => ?_) (fun h => ?_) | refine cif_ways (fun h => ?_) (fun h => ?_)) <;> (try simp only [sxn] at h) <;> (try (exfalso; omega)))) <;> (try (simp (maxSteps := 4000000) (disch := omega) only [sx, Value.oneCell', ↓reduceIte, Nat.reduceAdd, Nat.reduceMul, Nat.reduceEqDiff, Nat.reduceLT, Nat.reduceLeDiff, Int.reduceToNat, Int.reduceEq, Int.reduceLT, Int.reduceLE, Int.reduceNe, *])))))
            exact kround_i (e.legs.length - (k + 1)) (by omega) ⟨k + 1, b6, b8, _, rfl, by omega, by (simp (disch := omega) only [sx, natS, ↓reduceIte, Nat.reduceAdd, Nat.reduceEqDiff, Nat.reduceLeDiff, *]; (try rfl)), by (simp (disch := omega) only [sx, natS, ↓reduceIte, Nat.reduceAdd, Nat.reduceEqDiff, Nat.reduceLeDiff, *]; (try rfl)), by omega, by (simp (disch := omega) only [sx, natS, ↓reduceIte, Nat.reduceAdd, Nat.reduceEqDiff, Nat.reduceLeDiff, *]; (try rfl)), by (simp (disch := omega) only [sx, natS, ↓reduceIte, Nat.reduceAdd, Nat.reduceEqDiff, Nat.reduceLeDiff, *]; (try rfl)), by omega, hn1, hn2, by (first | rfl | (simp (disch := omega) only [sx, natS, ↓reduceIte, Nat.reduceAdd, Nat.reduceEqDiff, Nat.reduceLeDiff, *])), by (first | rfl | (simp (disch := omega) only [sx, natS, ↓reduceIte, Nat.reduceAdd, Nat.reduceEqDiff, Nat.reduceLeDiff, *])), by (simp (disch := omega) only [sx, natS, ↓reduceIte, Nat.reduceAdd, Nat.reduceEqDiff, Nat.reduceLeDiff, *]; (try rfl)), .inr ⟨by omega, _, rfl, by (simp (disch := omega) only [sx, natS, ↓reduceIte, Nat.reduceAdd, Nat.reduceEqDiff, Nat.reduceLeDiff, *]; (try rfl)), by omega, by omega, by omega, by omega, by omega⟩⟩
        · rcases hL with ⟨hk0, rfl⟩ | ⟨hk0, b, rfl, gh, hb, n1, n2, n3, n4⟩
          · exact absurd hk0.out (by omega)
          · have hke : e.legs.take k = e.legs := List.take_of_length_le (by omega)
            rw [hke] at gh
            have f1 := legs_all (negs e.legs)
            have f3 := legs_z0 (negs e.legs)
            (repeat' (first | refine awp_seq ?_ | refine awp_block ?_ | (refine awp_ret ?_; simp only [then_ret, block_ret, end_ret]) | ((first | refine vplain ?_ | refine vbuildS (by simp only [tyb, elemOf_s]) (by simp only [tyb, sxb, Value.oneCell', Nat.reduceAdd, Nat.reduceMul, Nat.reduceLeDiff, Nat.reduceLT]) ?_ | refine vcond ?_ | refine awp_exit ?_ | refine awp_skip ?_ | refine And.intro (by first | omega | assumption | exact setOk_ge (by decide +kernel)) ?_ | refine nqif_ways (fun h => ?_) ?_ | ((first | refine gif_ways (fun h => ?_) (fun h => ?_) | refine cif_ways (fun h => ?_) (fun h => ?_)) <;> (try simp only [sxn] at h) <;> (try (exfalso; omega)))) <;> (try (simp (maxSteps := 4000000) (disch := omega) only [sx, Value.oneCell', ↓reduceIte, Nat.reduceAdd, Nat.reduceMul, Nat.reduceEqDiff, Nat.reduceLT, Nat.reduceLeDiff, Int.reduceToNat, Int.reduceEq, Int.reduceLT, Int.reduceLE, Int.reduceNe, *])))))
            all_goals (refine aretc_2 rfl (by (simp (disch := omega) only [sx, natS, ↓reduceIte, Nat.reduceAdd, Nat.reduceEqDiff, Nat.reduceLeDiff, *]; (try rfl))) (by (simp (disch := omega) only [sx, natS, ↓reduceIte, Nat.reduceAdd, Nat.reduceEqDiff, Nat.reduceLeDiff, *]; (try rfl))) (by first | rfl | (simp (disch := omega) only [sx, natS, ↓reduceIte, Nat.reduceAdd, Nat.reduceEqDiff, Nat.reduceLeDiff, *]; (try rfl))) (by simp only [ATy.isAgg, tyb]) (by simp only [tyb]; rfl) (by exact Nat.zero_lt_succ _) (by (simp (disch := omega) only [sx, natS, ↓reduceIte, Nat.reduceAdd, Nat.reduceEqDiff, Nat.reduceLeDiff, *]; (try rfl))) (by first | (simp only [sxd, z0, p0, Nat.reduceEqDiff, ↓reduceIte]; rfl) | (simp only [sxd, z0, p0, Nat.reduceEqDiff, ↓reduceIte, *]; rfl) | (simp (disch := omega) only [sxd, z0, p0, Nat.reduceEqDiff, ↓reduceIte, sx, Value.oneCell', ↓reduceIte, Nat.reduceAdd, Nat.reduceMul, Nat.reduceEqDiff, Nat.reduceLT, Nat.reduceLeDiff, Int.reduceToNat, Int.reduceEq, Int.reduceLT, Int.reduceLE, Int.reduceNe, *]; rfl)) ?_)
            all_goals first | rfl | simp only [*]

  · obtain ⟨r1, r2⟩ := rev_no (e := e) (key := key) (booked := booked) (by unfold revOk; rw [decide_eq_false h1]; rfl)
    rw [r1, r2]
    have hd : decide (checkE e = 0) = false := decide_eq_false h1
    unfold zeroE
    rw [legs_nil]
    (refine con_val base Tryd.func44 rfl rfl (by kernel_rfl) (Nat.le_of_ble_eq_true rfl) ?_; rw [init_eq])
    clear h1
    (repeat' (first | refine awp_seq ?_ | refine awp_block ?_ | (refine awp_ret ?_; simp only [then_ret, block_ret, end_ret]) | ((first | refine call_val (by first | (simp only [sxd, z0, p0, Nat.reduceEqDiff, ↓reduceIte]; (try rfl); done) | (simp (disch := omega) only [sxd, z0, p0, sx, Value.oneCell', ↓reduceIte, Nat.reduceAdd, Nat.reduceMul, Nat.reduceEqDiff, Nat.reduceLT, Nat.reduceLeDiff, Int.reduceToNat, Int.reduceEq, Int.reduceLT, Int.reduceLE, Int.reduceNe, *]; (try rfl); done)) (c1) ?_ | refine vplain ?_ | refine vbuildS (by simp only [tyb, elemOf_s]) (by simp only [tyb, sxb, Value.oneCell', Nat.reduceAdd, Nat.reduceMul, Nat.reduceLeDiff, Nat.reduceLT]) ?_ | refine vcond ?_ | refine awp_exit ?_ | refine awp_skip ?_ | refine And.intro (by first | omega | assumption | exact setOk_ge (by decide +kernel)) ?_ | refine nqif_ways (fun h => ?_) ?_ | ((first | refine gif_ways (fun h => ?_) (fun h => ?_) | refine cif_ways (fun h => ?_) (fun h => ?_)) <;> (try simp only [sxn] at h) <;> (try (exfalso; omega)))) <;> (try (simp (disch := omega) only [sx, Value.oneCell', ↓reduceIte, Nat.reduceAdd, Nat.reduceMul, Nat.reduceEqDiff, Nat.reduceLT, Nat.reduceLeDiff, Int.reduceToNat, Int.reduceEq, Int.reduceLT, Int.reduceLE, Int.reduceNe, *])))))
    all_goals (refine aretc_2 rfl (by (simp (disch := omega) only [sx, natS, ↓reduceIte, Nat.reduceAdd, Nat.reduceEqDiff, Nat.reduceLeDiff, *]; (try rfl))) (by (simp (disch := omega) only [sx, natS, ↓reduceIte, Nat.reduceAdd, Nat.reduceEqDiff, Nat.reduceLeDiff, *]; (try rfl))) (by first | rfl | (simp (disch := omega) only [sx, natS, ↓reduceIte, Nat.reduceAdd, Nat.reduceEqDiff, Nat.reduceLeDiff, *]; (try rfl))) (by simp only [ATy.isAgg, tyb]) (by simp only [tyb]; rfl) (by exact Nat.zero_lt_succ _) (by (simp (disch := omega) only [sx, natS, ↓reduceIte, Nat.reduceAdd, Nat.reduceEqDiff, Nat.reduceLeDiff, *]; (try rfl))) (by simp only [sxd, z0, p0, Nat.reduceEqDiff, ↓reduceIte]; rfl) ?_)
    all_goals first | rfl | simp only [*]
end Go.Proofs.YtmnnphalljnmhaaDoor
