/-
  Chapter 19, walked: what is left out of a list, the net. Conditions: those that each theorem states.
-/
import Derived.Test.YtmnnphalljnmhaaDoorC19E
namespace Go.Proofs.YtmnnphalljnmhaaDoor
open Go.RowKit
set_option maxRecDepth 100000
set_option linter.unusedSimpArgs false

def nzL (x : LegV) : Bool := !decide (x.amount = 0)
def idxZ : List LegV → Nat
  | [] => 0
  | x :: l => if x.amount = 0 then 0 else idxZ l + 1
theorem idxZ_le : ∀ (l : List LegV), idxZ l ≤ l.length
  | [] => Nat.le_refl _
  | x :: l => by unfold idxZ; split <;> simp [idxZ_le l]
theorem idxZ_at : ∀ {l : List LegV} {k : Nat} {x : LegV}, l[k]? = some x → (∀ (j : Nat) y, j < k → l[j]? = some y → ¬ y.amount = 0) → x.amount = 0 → idxZ l = k
  | [], _, _, e, _, _ => by cases e
  | a :: l, 0, x, e, _, h => by cases e; unfold idxZ; rw [if_pos h]
  | a :: l, k + 1, x, e, h1, h => by
    unfold idxZ
    rw [if_neg (h1 0 a (by omega) rfl), idxZ_at (l := l) (k := k) (by simpa using e) (fun j y hj hy => h1 (j + 1) y (by omega) (by simpa using hy)) h]
theorem idxZ_end : ∀ {l : List LegV}, (∀ (j : Nat) y, l[j]? = some y → ¬ y.amount = 0) → idxZ l = l.length
  | [], _ => rfl
  | a :: l, h => by
    unfold idxZ
    rw [if_neg (h 0 a rfl), idxZ_end (l := l) fun j y hy => h (j + 1) y (by simpa using hy)]; rfl
theorem idxZ_before : ∀ {l : List LegV} {j : Nat} {y : LegV}, j < idxZ l → l[j]? = some y → ¬ y.amount = 0
  | [], _, _, h, _ => by simp [idxZ] at h
  | a :: l, 0, y, h, e => by
    cases e
    intro h0
    unfold idxZ at h
    rw [if_pos h0] at h; omega
  | a :: l, j + 1, y, h, e => by
    unfold idxZ at h
    split at h
    · omega
    · exact idxZ_before (l := l) (j := j) (by omega) (by simpa using e)
theorem idxZ_hit : ∀ {l : List LegV} {y : LegV}, l[idxZ l]? = some y → y.amount = 0
  | [], _, e => by cases e
  | a :: l, y, e => by
    unfold idxZ at e
    split at e
    · cases e; assumption
    · exact idxZ_hit (l := l) (by simpa using e)
def idxI (l : List LegV) : Int := if idxZ l < l.length then idxZ l else -1
theorem IndexFunc_con (l : List LegV) (hl : l.length ≤ 1000000) : Con Tryd.prog CtxP 101 [.sl (legsC l), .ex (.func (.func 79) #[] #[])] (.val (.ex (.int .i64 (idxI l)))) := by
  refine con_val base Tryd.func101 rfl rfl (by kernel_rfl) (Nat.le_of_ble_eq_true rfl) ?_
  rw [init_eq]
  have q1 := legs_len l
  (repeat' (first | refine awp_seq ?_ | refine awp_block ?_ | (refine awp_ret ?_; simp only [then_ret, block_ret, end_ret]) | ((first | refine vplain ?_ | refine vcond ?_ | refine awp_exit ?_ | refine awp_skip ?_ | refine And.intro (by first | omega | assumption | exact setOk_ge (by decide +kernel)) ?_ | refine nqif_ways (fun h => ?_) ?_ | ((first | refine gif_ways (fun h => ?_) (fun h => ?_) | refine cif_ways (fun h => ?_) (fun h => ?_)) <;> (try simp only [sxn] at h) <;> (try (exfalso; omega)))) <;> (try (simp (disch := omega) only [sx, Value.oneCell', ↓reduceIte, Nat.reduceAdd, Nat.reduceMul, Nat.reduceEqDiff, Nat.reduceLT, Nat.reduceLeDiff, Int.reduceToNat, Int.reduceEq, Int.reduceLT, Int.reduceLE, Int.reduceNe, *])))))
  refine vloop (fun n tm hp nx => ∃ k : Nat, n = l.length - k ∧ k ≤ l.length ∧ tm 0 = .sl (legsC l) ∧ tm 1 = .ex (.func (.func 79) #[] #[]) ∧ tm 7 = .ex (.int .i64 l.length) ∧ tm 8 = .ex (.int .i64 k) ∧ Hid (∀ (j : Nat) y, j < k → l[j]? = some y → ¬ y.amount = 0)) l.length ⟨0, rfl, Nat.zero_le _, by (first | rfl | (simp (disch := omega) only [sx, natS, ↓reduceIte, Nat.reduceAdd, Nat.reduceEqDiff, Nat.reduceLeDiff, *])), by (first | rfl | (simp (disch := omega) only [sx, natS, ↓reduceIte, Nat.reduceAdd, Nat.reduceEqDiff, Nat.reduceLeDiff, *])), by (first | rfl | (simp (disch := omega) only [sx, natS, ↓reduceIte, Nat.reduceAdd, Nat.reduceEqDiff, Nat.reduceLeDiff, *])), by (first | rfl | (simp (disch := omega) only [sx, natS, ↓reduceIte, Nat.reduceAdd, Nat.reduceEqDiff, Nat.reduceLeDiff, *])), Lib.hid (fun j y hj _ => by omega)⟩ ?_
  rintro n tm hp nx ⟨k, hn, hk, g0, g1, g7, g8, hH⟩
  by_cases hlt : k < l.length
  · have e0 : l[k]? = some l[k] := List.getElem?_eq_getElem hlt
    generalize l[k] = x at e0
    have q4 := legs_get e0
    by_cases hx : x.amount = 0
    · have hr : idxI l = k := by unfold idxI; rw [idxZ_at e0 hH.out hx, if_pos hlt]
      have hd : decide (x.amount = 0) = true := decide_eq_true hx
      clear hx e0
      (repeat' (first | refine awp_seq ?_ | refine awp_block ?_ | (refine awp_ret ?_; simp only [then_ret, block_ret, end_ret]) | ((first | refine call_val (by first | (simp only [sxd, z0, p0, Nat.reduceEqDiff, ↓reduceIte]; (try rfl); done) | (simp (disch := omega) only [sxd, z0, p0, sx, Value.oneCell', ↓reduceIte, Nat.reduceAdd, Nat.reduceMul, Nat.reduceEqDiff, Nat.reduceLT, Nat.reduceLeDiff, Int.reduceToNat, Int.reduceEq, Int.reduceLT, Int.reduceLE, Int.reduceNe, *]; (try rfl); done)) (net1_con x) ?_ | refine vplain ?_ | refine vcond ?_ | refine awp_exit ?_ | refine awp_skip ?_ | refine And.intro (by first | omega | assumption | exact setOk_ge (by decide +kernel)) ?_ | refine nqif_ways (fun h => ?_) ?_ | ((first | refine gif_ways (fun h => ?_) (fun h => ?_) | refine cif_ways (fun h => ?_) (fun h => ?_)) <;> (try simp only [sxn] at h) <;> (try (exfalso; omega)))) <;> (try (simp (disch := omega) only [sx, Value.oneCell', ↓reduceIte, Nat.reduceAdd, Nat.reduceMul, Nat.reduceEqDiff, Nat.reduceLT, Nat.reduceLeDiff, Int.reduceToNat, Int.reduceEq, Int.reduceLT, Int.reduceLE, Int.reduceNe, *])))))
      all_goals simp only [sxd, z0, p0, Nat.reduceEqDiff, ↓reduceIte, Tryd.f101, *]
    · have n1 : Hid (∀ (j : Nat) y, j < k + 1 → l[j]? = some y → ¬ y.amount = 0) := Lib.hid (fun j y hj hy => by
        rcases Nat.lt_or_ge j k with h | h
        · exact hH.out j y h hy
        · have : j = k := by omega
          subst this
          rw [e0] at hy
          rw [← Option.some.inj hy]; exact hx)
      have hd : decide (x.amount = 0) = false := decide_eq_false hx
      clear hx e0
      (repeat' (first | refine awp_seq ?_ | refine awp_block ?_ | (refine awp_ret ?_; simp only [then_ret, block_ret, end_ret]) | ((first | refine call_val (by first | (simp only [sxd, z0, p0, Nat.reduceEqDiff, ↓reduceIte]; (try rfl); done) | (simp (disch := omega) only [sxd, z0, p0, sx, Value.oneCell', ↓reduceIte, Nat.reduceAdd, Nat.reduceMul, Nat.reduceEqDiff, Nat.reduceLT, Nat.reduceLeDiff, Int.reduceToNat, Int.reduceEq, Int.reduceLT, Int.reduceLE, Int.reduceNe, *]; (try rfl); done)) (net1_con x) ?_ | refine vplain ?_ | refine vcond ?_ | refine awp_exit ?_ | refine awp_skip ?_ | refine And.intro (by first | omega | assumption | exact setOk_ge (by decide +kernel)) ?_ | refine nqif_ways (fun h => ?_) ?_ | ((first | refine gif_ways (fun h => ?_) (fun h => ?_) | refine cif_ways (fun h => ?_) (fun h => ?_)) <;> (try simp only [sxn] at h) <;> (try (exfalso; omega)))) <;> (try (simp (disch := omega) only [sx, Value.oneCell', ↓reduceIte, Nat.reduceAdd, Nat.reduceMul, Nat.reduceEqDiff, Nat.reduceLT, Nat.reduceLeDiff, Int.reduceToNat, Int.reduceEq, Int.reduceLT, Int.reduceLE, Int.reduceNe, *])))))
      exact kround_i (l.length - (k + 1)) (by omega) ⟨k + 1, rfl, by omega, by (first | rfl | (simp (disch := omega) only [sx, natS, ↓reduceIte, Nat.reduceAdd, Nat.reduceEqDiff, Nat.reduceLeDiff, *])), by (first | rfl | (simp (disch := omega) only [sx, natS, ↓reduceIte, Nat.reduceAdd, Nat.reduceEqDiff, Nat.reduceLeDiff, *])), by (first | rfl | (simp (disch := omega) only [sx, natS, ↓reduceIte, Nat.reduceAdd, Nat.reduceEqDiff, Nat.reduceLeDiff, *])), by (first | rfl | (simp (disch := omega) only [sx, natS, ↓reduceIte, Nat.reduceAdd, Nat.reduceEqDiff, Nat.reduceLeDiff, *])), n1⟩
  · have hr : idxI l = -1 := by
      unfold idxI
      rw [idxZ_end fun j y hy => hH.out j y (by have := (List.getElem?_eq_some_iff.1 hy).1; omega) hy, if_neg (by omega)]
    (repeat' (first | refine awp_seq ?_ | refine awp_block ?_ | (refine awp_ret ?_; simp only [then_ret, block_ret, end_ret]) | ((first | refine vplain ?_ | refine vcond ?_ | refine awp_exit ?_ | refine awp_skip ?_ | refine And.intro (by first | omega | assumption | exact setOk_ge (by decide +kernel)) ?_ | refine nqif_ways (fun h => ?_) ?_ | ((first | refine gif_ways (fun h => ?_) (fun h => ?_) | refine cif_ways (fun h => ?_) (fun h => ?_)) <;> (try simp only [sxn] at h) <;> (try (exfalso; omega)))) <;> (try (simp (disch := omega) only [sx, Value.oneCell', ↓reduceIte, Nat.reduceAdd, Nat.reduceMul, Nat.reduceEqDiff, Nat.reduceLT, Nat.reduceLeDiff, Int.reduceToNat, Int.reduceEq, Int.reduceLT, Int.reduceLE, Int.reduceNe, *])))))
    all_goals simp only [sxd, z0, p0, Nat.reduceEqDiff, ↓reduceIte, Tryd.f101, *]
theorem filt_all {l : List LegV} (h : idxZ l = l.length) : l.filter nzL = l := by
  rw [List.filter_eq_self]
  intro x hx
  obtain ⟨j, hj, rfl⟩ := List.getElem_of_mem hx
  have := idxZ_before (l := l) (j := j) (y := l[j]) (by omega) (List.getElem?_eq_getElem hj)
  simp [nzL, this]
theorem filt_take {l : List LegV} {k : Nat} {x : LegV} (e : l[k]? = some x) : (l.take (k + 1)).filter nzL = (l.take k).filter nzL ++ if nzL x = true then [x] else [] := by
  rw [List.take_add_one, e, List.filter_append]
  congr 1
  simp [List.filter_cons]
def zLeg : List AV := [.ex (.int .i64 0), .ex (.int .i64 0), .ex (.string ⟨#[]⟩)]
theorem Delete_con (l : List LegV) (hl : l.length ≤ 1000000) : ConM Tryd.prog CtxP 78 62 (legsC l) [.ex (.func (.func 79) #[] #[])] (legsC (l.filter nzL)) := by
  refine con_moved base Tryd.func78 rfl rfl (by kernel_rfl) (Nat.le_of_ble_eq_true rfl) (legs_ns _) ?_
  rw [initM_eq]
  have q1 := legs_len l
  have hF := IndexFunc_con l hl
  have f1 := legs_all l
  have f3 := legs_z0 l
  have hle := idxZ_le l
  by_cases hz : idxZ l < l.length
  · have hi : idxI l = (idxZ l : Int) := by unfold idxI; rw [if_pos hz]
    have hneg : ¬ ((idxZ l : Int) = -1) := by omega
    have hdn : decide ((idxZ l : Int) = -1) = false := decide_eq_false hneg
    rw [hi] at hF
    have hE : (l.take (idxZ l)).filter nzL = l.take (idxZ l) := by
      rw [List.filter_eq_self]
      intro x hx
      obtain ⟨j, hj, rfl⟩ := List.getElem_of_mem hx
      rw [List.length_take] at hj
      rw [List.getElem_take]
      have := idxZ_before (l := l) (j := j) (y := l[j]) (by omega) (List.getElem?_eq_getElem (by omega))
      simp [nzL, this]
    have hE1 : (l.take (idxZ l + 1)).filter nzL = l.take (idxZ l) := by
      have e0 : l[idxZ l]? = some l[idxZ l] := List.getElem?_eq_getElem hz
      rw [filt_take e0, hE, if_neg (by simp [nzL, idxZ_hit e0]), List.append_nil]
    clear hi hneg
    generalize idxZ l = i0 at *
    (repeat' (first | refine awp_seq ?_ | refine awp_block ?_ | (refine awp_ret ?_; simp only [then_ret, block_ret, end_ret]) | ((first | refine call_val (by first | (simp only [sxd, z0, p0, Nat.reduceEqDiff, ↓reduceIte]; (try rfl); done) | (simp (disch := omega) only [sxd, z0, p0, sx, Value.oneCell', ↓reduceIte, Nat.reduceAdd, Nat.reduceMul, Nat.reduceEqDiff, Nat.reduceLT, Nat.reduceLeDiff, Int.reduceToNat, Int.reduceEq, Int.reduceLT, Int.reduceLE, Int.reduceNe, *]; (try rfl); done)) (hF) ?_ | refine vplain ?_ | refine vcond ?_ | refine awp_exit ?_ | refine awp_skip ?_ | refine And.intro (by first | omega | assumption | exact setOk_ge (by decide +kernel)) ?_ | refine nqif_ways (fun h => ?_) ?_ | ((first | refine gif_ways (fun h => ?_) (fun h => ?_) | refine cif_ways (fun h => ?_) (fun h => ?_)) <;> (try simp only [sxn] at h) <;> (try (exfalso; omega)))) <;> (try (simp (disch := omega) only [sx, Value.oneCell', ↓reduceIte, Nat.reduceAdd, Nat.reduceMul, Nat.reduceEqDiff, Nat.reduceLT, Nat.reduceLeDiff, Int.reduceToNat, Int.reduceEq, Int.reduceLT, Int.reduceLE, Int.reduceNe, *])))))
    refine vloop (fun n tm hp nx => ∃ (i j b : Nat) (E : List LegV), n = l.length - j ∧ i < j ∧ j ≤ l.length ∧ E.length = l.length ∧ tm 0 = .own 0 ∧ hp 0 = some ⟨62, legsC E, true⟩ ∧ 0 < nx ∧ tm 1 = .ex (.func (.func 79) #[] #[]) ∧ tm 5 = .ex (.int .i64 i) ∧ tm 6 = .ex (.int .i64 j) ∧ Hid (E.take i = (l.take j).filter nzL) ∧ Hid (E.drop j = l.drop j)) (l.length - (i0 + 1)) ⟨i0, i0 + 1, 0, l, rfl, by omega, by omega, rfl, by (first | rfl | (simp (disch := omega) only [sx, natS, ↓reduceIte, Nat.reduceAdd, Nat.reduceEqDiff, Nat.reduceLeDiff, *])), by (simp (disch := omega) only [sx, natS, ↓reduceIte, Nat.reduceAdd, Nat.reduceEqDiff, Nat.reduceLeDiff, *]; (try rfl)), by omega, by (first | rfl | (simp (disch := omega) only [sx, natS, ↓reduceIte, Nat.reduceAdd, Nat.reduceEqDiff, Nat.reduceLeDiff, *])), by (first | rfl | (simp (disch := omega) only [sx, natS, ↓reduceIte, Nat.reduceAdd, Nat.reduceEqDiff, Nat.reduceLeDiff, *])), by (simp (disch := omega) only [sx, natS, ↓reduceIte, Nat.reduceAdd, Nat.reduceEqDiff, Nat.reduceLeDiff, *]; (try rfl)), Lib.hid hE1.symm, Lib.hid rfl⟩ ?_
    clear f1 f3 hF hE hE1 hdn
    rintro n tm hp nx ⟨i, j, b, E, hn, hij, hj, hEl, g0, gh, hnx, g1, g5, g6, hA, hB⟩
    have q2 := legs_len E
    have f1 := legs_all E
    have f3 := legs_z0 E
    by_cases hlt : j < l.length
    · have e0 : l[j]? = some l[j] := List.getElem?_eq_getElem hlt
      have e1 : E[j]? = some l[j] := by
        have := congrArg (·[0]?) hB.out
        simpa [List.getElem?_drop, e0] using this
      generalize l[j] = x at e0 e1
      have q4 := legs_get e1
      have hxF := filt_take e0
      have hB1 : E.drop (j + 1) = l.drop (j + 1) := by
        have := congrArg (List.drop 1) hB.out
        rwa [List.drop_drop, List.drop_drop] at this
      by_cases hx : x.amount = 0
      · have hd : decide (x.amount = 0) = true := decide_eq_true hx
        have n1 : Hid (E.take i = (l.take (j + 1)).filter nzL) := Lib.hid (by rw [hxF, if_neg (by simp [nzL, hx]), List.append_nil]; exact hA.out)
        have n2 := Lib.hid hB1
        clear hx e0 e1 hxF hB1
        (repeat' (first | refine awp_seq ?_ | refine awp_block ?_ | (refine awp_ret ?_; simp only [then_ret, block_ret, end_ret]) | ((first | refine call_val (by first | (simp only [sxd, z0, p0, Nat.reduceEqDiff, ↓reduceIte]; (try rfl); done) | (simp (disch := omega) only [sxd, z0, p0, sx, Value.oneCell', ↓reduceIte, Nat.reduceAdd, Nat.reduceMul, Nat.reduceEqDiff, Nat.reduceLT, Nat.reduceLeDiff, Int.reduceToNat, Int.reduceEq, Int.reduceLT, Int.reduceLE, Int.reduceNe, *]; (try rfl); done)) (net1_con x) ?_ | refine vplain ?_ | refine vcond ?_ | refine awp_exit ?_ | refine awp_skip ?_ | refine And.intro (by first | omega | assumption | exact setOk_ge (by decide +kernel)) ?_ | refine nqif_ways (fun h => ?_) ?_ | ((first | refine gif_ways (fun h => ?_) (fun h => ?_) | refine cif_ways (fun h => ?_) (fun h => ?_)) <;> (try simp only [sxn] at h) <;> (try (exfalso; omega)))) <;> (try (simp (disch := omega) only [sx, Value.oneCell', ↓reduceIte, Nat.reduceAdd, Nat.reduceMul, Nat.reduceEqDiff, Nat.reduceLT, Nat.reduceLeDiff, Int.reduceToNat, Int.reduceEq, Int.reduceLT, Int.reduceLE, Int.reduceNe, *])))))
        exact kround_i (l.length - (j + 1)) (by omega) ⟨i, j + 1, 0, E, rfl, by omega, by omega, hEl, by (first | rfl | (simp (disch := omega) only [sx, natS, ↓reduceIte, Nat.reduceAdd, Nat.reduceEqDiff, Nat.reduceLeDiff, *])), by (simp (disch := omega) only [sx, natS, ↓reduceIte, Nat.reduceAdd, Nat.reduceEqDiff, Nat.reduceLeDiff, *]; (try rfl)), by omega, by (first | rfl | (simp (disch := omega) only [sx, natS, ↓reduceIte, Nat.reduceAdd, Nat.reduceEqDiff, Nat.reduceLeDiff, *])), by (first | rfl | (simp (disch := omega) only [sx, natS, ↓reduceIte, Nat.reduceAdd, Nat.reduceEqDiff, Nat.reduceLeDiff, *])), by (simp (disch := omega) only [sx, natS, ↓reduceIte, Nat.reduceAdd, Nat.reduceEqDiff, Nat.reduceLeDiff, *]; (try rfl)), n1, n2⟩
      · have hd : decide (x.amount = 0) = false := decide_eq_false hx
        have n1 : Hid ((E.set i x).take (i + 1) = (l.take (j + 1)).filter nzL) := Lib.hid (by
          rw [hxF, if_pos (by simp [nzL, hx]), ← hA.out, List.take_add_one, List.take_set_of_le (Nat.le_refl _), List.getElem?_set_self (by omega)]; rfl)
        have n2 : Hid ((E.set i x).drop (j + 1) = l.drop (j + 1)) := Lib.hid (by rw [List.drop_set_of_lt (by omega)]; exact hB1)
        have hset : (legsC E).set i [.ex (.int .i64 x.account), .ex (.int .i64 x.amount), .ex (.string x.cur)] = legsC (E.set i x) := by unfold legsC; rw [List.map_set]; rfl
        have q5 : ∃ y, E[i]? = some y := ⟨E[i]'(by omega), List.getElem?_eq_getElem (by omega)⟩
        obtain ⟨y, q5⟩ := q5
        have q6 := legs_get q5
        have hil : i < E.length := by omega
        have hlen2 : (E.set i x).length = l.length := by rw [List.length_set]; exact hEl
        clear hx e0 e1 hxF hB1 q5
        (repeat' (first | refine awp_seq ?_ | refine awp_block ?_ | (refine awp_ret ?_; simp only [then_ret, block_ret, end_ret]) | ((first | refine call_val (by first | (simp only [sxd, z0, p0, Nat.reduceEqDiff, ↓reduceIte]; (try rfl); done) | (simp (disch := omega) only [sxd, z0, p0, sx, Value.oneCell', ↓reduceIte, Nat.reduceAdd, Nat.reduceMul, Nat.reduceEqDiff, Nat.reduceLT, Nat.reduceLeDiff, Int.reduceToNat, Int.reduceEq, Int.reduceLT, Int.reduceLE, Int.reduceNe, *]; (try rfl); done)) (net1_con x) ?_ | refine vplain ?_ | refine vcond ?_ | refine awp_exit ?_ | refine awp_skip ?_ | refine And.intro (by first | omega | assumption | exact setOk_ge (by decide +kernel)) ?_ | refine nqif_ways (fun h => ?_) ?_ | ((first | refine gif_ways (fun h => ?_) (fun h => ?_) | refine cif_ways (fun h => ?_) (fun h => ?_)) <;> (try simp only [sxn] at h) <;> (try (exfalso; omega)))) <;> (try (simp (disch := omega) only [sx, Value.oneCell', ↓reduceIte, Nat.reduceAdd, Nat.reduceMul, Nat.reduceEqDiff, Nat.reduceLT, Nat.reduceLeDiff, Int.reduceToNat, Int.reduceEq, Int.reduceLT, Int.reduceLE, Int.reduceNe, *])))))
        exact kround_i (l.length - (j + 1)) (by omega) ⟨i + 1, j + 1, 0, E.set i x, rfl, by omega, by omega, hlen2, by (first | rfl | (simp (disch := omega) only [sx, natS, ↓reduceIte, Nat.reduceAdd, Nat.reduceEqDiff, Nat.reduceLeDiff, *])), by (simp (disch := omega) only [sx, natS, ↓reduceIte, Nat.reduceAdd, Nat.reduceEqDiff, Nat.reduceLeDiff, *]; (try rfl)), by omega, by (first | rfl | (simp (disch := omega) only [sx, natS, ↓reduceIte, Nat.reduceAdd, Nat.reduceEqDiff, Nat.reduceLeDiff, *])), by (simp (disch := omega) only [sx, natS, ↓reduceIte, Nat.reduceAdd, Nat.reduceEqDiff, Nat.reduceLeDiff, *]; (try rfl)), by (simp (disch := omega) only [sx, natS, ↓reduceIte, Nat.reduceAdd, Nat.reduceEqDiff, Nat.reduceLeDiff, *]; (try rfl)), n1, n2⟩
    · have hjl : j = l.length := by omega
      subst hjl
      have hR : E.take i = l.filter nzL := by rw [hA.out, List.take_length]
      have hcut : ((legsC E).take i ++ List.replicate (l.length - i) [AV.ex (.int .i64 0), AV.ex (.int .i64 0), AV.ex (.string ⟨#[]⟩)]).take i = legsC (l.filter nzL) := by
        rw [List.take_append_of_le_length (by rw [List.length_take]; omega), List.take_take, Nat.min_self, ← hR]
        unfold legsC
        rw [List.map_take]
      have hlc : ((legsC E).take i ++ List.replicate (l.length - i) [AV.ex (.int .i64 0), AV.ex (.int .i64 0), AV.ex (.string ⟨#[]⟩)]).length = l.length := by
        rw [List.length_append, List.length_take, List.length_replicate]; omega
      have f4 := legs_all (l.filter nzL)
      have f5 := legs_z0 (l.filter nzL)
      have hlt2 : ¬ (l.length : Int) < (l.length : Int) := by omega
      clear hR hA hB
      (repeat' (first | refine awp_seq ?_ | refine awp_block ?_ | (refine awp_ret ?_; simp only [then_ret, block_ret, end_ret]) | ((first | refine slice_vw (l := i) (by (simp (disch := omega) only [sx, natS, ↓reduceIte, Nat.reduceAdd, Nat.reduceEqDiff, Nat.reduceLeDiff, *]; (try rfl))) (by first | rfl | omega) (by first | assumption | (simp (disch := omega) only [sx, natS, ↓reduceIte, Nat.reduceAdd, Nat.reduceEqDiff, Nat.reduceLeDiff, *]; (try rfl))) (by simp only [tyb]) (by first | (simp only [tyb]; done) | (simp only [tyb]; decide)) (by first | omega | (simp only [List.length_map, *]; omega)) ?_ | refine slice_cut (l := i) (by (simp (disch := omega) only [sx, natS, ↓reduceIte, Nat.reduceAdd, Nat.reduceEqDiff, Nat.reduceLeDiff, *]; (try rfl))) (by first | rfl | omega) (by first | assumption | (simp (disch := omega) only [sx, natS, ↓reduceIte, Nat.reduceAdd, Nat.reduceEqDiff, Nat.reduceLeDiff, *]; (try rfl))) (by simp only [tyb]) (by first | (simp only [tyb]; done) | (simp only [tyb]; decide)) (by first | omega | (simp only [List.length_map, *]; omega)) ?_ | refine vplain ?_ | refine vcond ?_ | refine awp_exit ?_ | refine awp_skip ?_ | refine And.intro (by first | omega | assumption | exact setOk_ge (by decide +kernel)) ?_ | refine nqif_ways (fun h => ?_) ?_ | ((first | refine gif_ways (fun h => ?_) (fun h => ?_) | refine cif_ways (fun h => ?_) (fun h => ?_)) <;> (try simp only [sxn] at h) <;> (try (exfalso; omega)))) <;> (try (simp (disch := omega) only [sx, Value.oneCell', ↓reduceIte, Nat.reduceAdd, Nat.reduceMul, Nat.reduceEqDiff, Nat.reduceLT, Nat.reduceLeDiff, Int.reduceToNat, Int.reduceEq, Int.reduceLT, Int.reduceLE, Int.reduceNe, *])))))
      all_goals simp only [sxd, z0, p0, Nat.reduceEqDiff, ↓reduceIte, Tryd.f78, *]
  · have hze : idxZ l = l.length := by omega
    have hi : idxI l = -1 := by unfold idxI; rw [if_neg hz]
    have hall := filt_all hze
    rw [hi] at hF
    rw [hall]
    clear hz hle hze hi
    (repeat' (first | refine awp_seq ?_ | refine awp_block ?_ | (refine awp_ret ?_; simp only [then_ret, block_ret, end_ret]) | ((first | refine call_val (by first | (simp only [sxd, z0, p0, Nat.reduceEqDiff, ↓reduceIte]; (try rfl); done) | (simp (disch := omega) only [sxd, z0, p0, sx, Value.oneCell', ↓reduceIte, Nat.reduceAdd, Nat.reduceMul, Nat.reduceEqDiff, Nat.reduceLT, Nat.reduceLeDiff, Int.reduceToNat, Int.reduceEq, Int.reduceLT, Int.reduceLE, Int.reduceNe, *]; (try rfl); done)) (hF) ?_ | refine vplain ?_ | refine vcond ?_ | refine awp_exit ?_ | refine awp_skip ?_ | refine And.intro (by first | omega | assumption | exact setOk_ge (by decide +kernel)) ?_ | refine nqif_ways (fun h => ?_) ?_ | ((first | refine gif_ways (fun h => ?_) (fun h => ?_) | refine cif_ways (fun h => ?_) (fun h => ?_)) <;> (try simp only [sxn] at h) <;> (try (exfalso; omega)))) <;> (try (simp (disch := omega) only [sx, Value.oneCell', ↓reduceIte, Nat.reduceAdd, Nat.reduceMul, Nat.reduceEqDiff, Nat.reduceLT, Nat.reduceLeDiff, Int.reduceToNat, Int.reduceEq, Int.reduceLT, Int.reduceLE, Int.reduceNe, *])))))
    all_goals simp only [sxd, z0, p0, Nat.reduceEqDiff, ↓reduceIte, Tryd.f78, *]
def netL (l : List LegV) : List LegV := (collL l).filter nzL
theorem netL_len (l : List LegV) : (netL l).length ≤ l.length := Nat.le_trans (List.length_filter_le _ _) (collL_len l)
theorem Net_con (l : List LegV) (hl : l.length ≤ 1000) : Con Tryd.prog CtxP 42 [.sl (legsC l)] (.fresh 62 (legsC (netL l))) := by
  refine con_fresh base Tryd.func42 rfl rfl (by kernel_rfl) (Nat.le_of_ble_eq_true rfl) ?_
  rw [init_eq]
  have f1 := legs_all (collL l)
  have f2 := legs_ns (collL l)
  have f3 := legs_z0 (collL l)
  have f4 := legs_all (netL l)
  have f5 := legs_ns (netL l)
  have f6 := legs_z0 (netL l)
  have hle := collL_len l
  have hD : ConM Tryd.prog CtxP 78 62 (legsC (collL l)) [.ex (.func (.func 79) #[] #[])] (legsC (netL l)) := Delete_con (collL l) (by omega)
  (repeat' (first | refine awp_seq ?_ | refine awp_block ?_ | (refine awp_ret ?_; simp only [then_ret, block_ret, end_ret]) | ((first | refine call_moved0 (by first | (simp only [sxd, z0, p0, Nat.reduceEqDiff, ↓reduceIte]; (try rfl); done) | (simp (disch := omega) only [sxd, z0, p0, sx, Value.oneCell', ↓reduceIte, Nat.reduceAdd, Nat.reduceMul, Nat.reduceEqDiff, Nat.reduceLT, Nat.reduceLeDiff, Int.reduceToNat, Int.reduceEq, Int.reduceLT, Int.reduceLE, Int.reduceNe, *]; (try rfl); done)) (by first | assumption | rfl) (collect_con l hl) ?_ | refine call_mv (by (simp (disch := omega) only [sx, natS, ↓reduceIte, Nat.reduceAdd, Nat.reduceEqDiff, Nat.reduceLeDiff, *]; (try rfl))) rfl (by first | assumption | rfl) (by first | (simp only [sxd, z0, p0, Nat.reduceEqDiff, ↓reduceIte]; (try rfl); done) | (simp (disch := omega) only [sxd, z0, p0, sx, Value.oneCell', ↓reduceIte, Nat.reduceAdd, Nat.reduceMul, Nat.reduceEqDiff, Nat.reduceLT, Nat.reduceLeDiff, Int.reduceToNat, Int.reduceEq, Int.reduceLT, Int.reduceLE, Int.reduceNe, *]; (try rfl); done)) (by first | exact List.not_mem_nil | (simp only [List.mem_cons, List.not_mem_nil, or_false]; omega)) (by first | assumption | rfl) (by first | assumption | rfl) (hD) ?_ | refine vplain ?_ | refine vcond ?_ | refine awp_exit ?_ | refine awp_skip ?_ | refine And.intro (by first | omega | assumption | exact setOk_ge (by decide +kernel)) ?_ | refine nqif_ways (fun h => ?_) ?_ | ((first | refine gif_ways (fun h => ?_) (fun h => ?_) | refine cif_ways (fun h => ?_) (fun h => ?_)) <;> (try simp only [sxn] at h) <;> (try (exfalso; omega)))) <;> (try (simp (disch := omega) only [sx, Value.oneCell', ↓reduceIte, Nat.reduceAdd, Nat.reduceMul, Nat.reduceEqDiff, Nat.reduceLT, Nat.reduceLeDiff, Int.reduceToNat, Int.reduceEq, Int.reduceLT, Int.reduceLE, Int.reduceNe, *])))))
  all_goals simp only [sxd, z0, p0, Nat.reduceEqDiff, ↓reduceIte, Tryd.f42, *]
end Go.Proofs.YtmnnphalljnmhaaDoor
