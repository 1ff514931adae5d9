/-
  Chapter 19, walked: the document's net. Conditions: lists of at most a thousand legs.
-/
import Derived.Test.YtmnnphalljnmhaaDoorC19J
namespace Go.Proofs.YtmnnphalljnmhaaDoor
open Go.RowKit
set_option maxRecDepth 100000
set_option linter.unusedSimpArgs false

theorem less_con (a b : LegV) : Con Tryd.prog CtxP 80 [.agg [.ex (.int .i64 a.account), .ex (.int .i64 a.amount), .ex (.string a.cur)], .agg [.ex (.int .i64 b.account), .ex (.int .i64 b.amount), .ex (.string b.cur)]] (.val (.ex (.bool (decide (cmpL a b < 0))))) := by
  refine con_val base Tryd.func80 rfl rfl (by kernel_rfl) (Nat.le_of_ble_eq_true rfl) ?_
  rw [init_eq]
  rcases Int.lt_trichotomy a.account b.account with h | h | h
  · have hr : decide (cmpL a b < 0) = true := decide_eq_true (cmpL_lt.2 (.inl h))
    (repeat' (first | refine awp_seq ?_ | refine awp_block ?_ | (refine awp_ret ?_; simp only [then_ret, block_ret, end_ret]) | ((first | refine vplain ?_ | refine vcond ?_ | refine awp_exit ?_ | refine awp_skip ?_ | refine And.intro (by first | omega | assumption | exact setOk_ge (by decide +kernel)) ?_ | refine nqif_ways (fun h => ?_) ?_ | ((first | refine gif_ways (fun h => ?_) (fun h => ?_) | refine cif_ways (fun h => ?_) (fun h => ?_)) <;> (try simp only [sxn] at h) <;> (try (exfalso; omega)))) <;> (try (simp (disch := omega) only [sx, Value.oneCell', ↓reduceIte, Nat.reduceAdd, Nat.reduceMul, Nat.reduceEqDiff, Nat.reduceLT, Nat.reduceLeDiff, Int.reduceToNat, Int.reduceEq, Int.reduceLT, Int.reduceLE, Int.reduceNe, *])))))
    all_goals simp only [sxd, z0, p0, Nat.reduceEqDiff, ↓reduceIte, Tryd.f80, *]
  · have h1 : ¬ a.account < b.account := by omega
    have hd : decide (a.account = b.account) = true := decide_eq_true h
    have hd2 : decide (a.account < b.account) = false := decide_eq_false h1
    cases hb : Op.bytesLess a.cur.data.toList b.cur.data.toList with
    | true =>
      have hr : decide (cmpL a b < 0) = true := decide_eq_true (cmpL_lt.2 (.inr ⟨h, hb⟩))
      clear h h1
      (repeat' (first | refine awp_seq ?_ | refine awp_block ?_ | (refine awp_ret ?_; simp only [then_ret, block_ret, end_ret]) | ((first | refine vplain ?_ | refine vcond ?_ | refine awp_exit ?_ | refine awp_skip ?_ | refine And.intro (by first | omega | assumption | exact setOk_ge (by decide +kernel)) ?_ | refine nqif_ways (fun h => ?_) ?_ | ((first | refine gif_ways (fun h => ?_) (fun h => ?_) | refine cif_ways (fun h => ?_) (fun h => ?_)) <;> (try simp only [sxn] at h) <;> (try (exfalso; omega)))) <;> (try (simp (disch := omega) only [sx, Value.oneCell', ↓reduceIte, Nat.reduceAdd, Nat.reduceMul, Nat.reduceEqDiff, Nat.reduceLT, Nat.reduceLeDiff, Int.reduceToNat, Int.reduceEq, Int.reduceLT, Int.reduceLE, Int.reduceNe, *])))))
      all_goals simp only [sxd, z0, p0, Nat.reduceEqDiff, ↓reduceIte, Tryd.f80, *]
    | false =>
      have hr : decide (cmpL a b < 0) = false := decide_eq_false fun hh => by
        rcases cmpL_lt.1 hh with hh | hh
        · exact h1 hh
        · have h3 := hh.2
          unfold ltS at h3
          rw [hb] at h3; cases h3
      clear h h1
      (repeat' (first | refine awp_seq ?_ | refine awp_block ?_ | (refine awp_ret ?_; simp only [then_ret, block_ret, end_ret]) | ((first | refine vplain ?_ | refine vcond ?_ | refine awp_exit ?_ | refine awp_skip ?_ | refine And.intro (by first | omega | assumption | exact setOk_ge (by decide +kernel)) ?_ | refine nqif_ways (fun h => ?_) ?_ | ((first | refine gif_ways (fun h => ?_) (fun h => ?_) | refine cif_ways (fun h => ?_) (fun h => ?_)) <;> (try simp only [sxn] at h) <;> (try (exfalso; omega)))) <;> (try (simp (disch := omega) only [sx, Value.oneCell', ↓reduceIte, Nat.reduceAdd, Nat.reduceMul, Nat.reduceEqDiff, Nat.reduceLT, Nat.reduceLeDiff, Int.reduceToNat, Int.reduceEq, Int.reduceLT, Int.reduceLE, Int.reduceNe, *])))))
      all_goals simp only [sxd, z0, p0, Nat.reduceEqDiff, ↓reduceIte, Tryd.f80, *]
  · have hr : decide (cmpL a b < 0) = false := decide_eq_false fun hh => by
      rcases cmpL_lt.1 hh with hh | hh <;> omega
    have h1 : ¬ a.account < b.account := by omega
    have h2 : ¬ a.account = b.account := by omega
    (repeat' (first | refine awp_seq ?_ | refine awp_block ?_ | (refine awp_ret ?_; simp only [then_ret, block_ret, end_ret]) | ((first | refine vplain ?_ | refine vcond ?_ | refine awp_exit ?_ | refine awp_skip ?_ | refine And.intro (by first | omega | assumption | exact setOk_ge (by decide +kernel)) ?_ | refine nqif_ways (fun h => ?_) ?_ | ((first | refine gif_ways (fun h => ?_) (fun h => ?_) | refine cif_ways (fun h => ?_) (fun h => ?_)) <;> (try simp only [sxn] at h) <;> (try (exfalso; omega)))) <;> (try (simp (disch := omega) only [sx, Value.oneCell', ↓reduceIte, Nat.reduceAdd, Nat.reduceMul, Nat.reduceEqDiff, Nat.reduceLT, Nat.reduceLeDiff, Int.reduceToNat, Int.reduceEq, Int.reduceLT, Int.reduceLE, Int.reduceNe, *])))))
    all_goals simp only [sxd, z0, p0, Nat.reduceEqDiff, ↓reduceIte, Tryd.f80, *]
theorem lI_lt {l : List LegV} {x : LegV} {j : Nat} {m : LegV} (h : j < lI l x) (e : l[j]? = some m) : decide (cmpL m x < 0) = true := bs_lt (lt := fun m : LegV => decide (cmpL m x < 0)) h e
theorem lI_stop {l : List LegV} {x : LegV} {j : Nat} {m : LegV} (h : lI l x = j) (e : l[j]? = some m) : decide (cmpL m x < 0) = false := by
  subst h
  exact bs_stop (lt := fun m : LegV => decide (cmpL m x < 0)) e
theorem lB_at {l : List LegV} {x : LegV} {j : Nat} {m : LegV} (h : lI l x = j) (e : l[j]? = some m) : lB l x = decide (cmpL m x = 0) := bs_found h e
theorem lB_end {l : List LegV} {x : LegV} {j : Nat} (h : lI l x = j) (e : l.length ≤ j) : lB l x = false := bs_none h e
theorem addL_t2 {l : List LegV} {x : LegV} {i : Nat} {m : LegV} (hi : lI l x = i) (e : l[i]? = some m) (hc : cmpL m x = 0) :
    (legsC l).take i ++ [[.ex (.int .i64 x.account), .ex (.int .i64 (IntKind.i64.wrap (x.amount + m.amount))), .ex (.string x.cur)]] ++ (legsC l).drop (i + 1) = legsC (addL l x) := by
  have hb : lB l x = true := by rw [lB_at hi e]; exact decide_eq_true hc
  rw [addL_t hb hi e, List.set_eq_take_append_cons_drop, if_pos (by rw [legs_len]; exact (List.getElem?_eq_some_iff.1 e).1), Int.add_comm x.amount]
  simp
theorem addL_f2 {l : List LegV} {x : LegV} {i : Nat} (hb : lB l x = false) (hi : lI l x = i) :
    (legsC l).take i ++ [[.ex (.int .i64 x.account), .ex (.int .i64 x.amount), .ex (.string x.cur)]] ++ (legsC l).drop i = legsC (addL l x) := by
  rw [addL_f hb hi]; simp
/-- Where neither is less, the place is the same. -/
theorem cmpL_not {a b : LegV} (h : ¬ cmpL a b < 0) : decide (cmpL b a < 0) = !decide (cmpL a b = 0) := by
  by_cases h0 : cmpL a b = 0
  · rw [decide_eq_true h0]
    have h1 := cmpL_eq.1 h0
    exact decide_eq_false fun h2 => by
      rcases cmpL_lt.1 h2 with h2 | h2
      · omega
      · rw [h1.2, ltS_irrefl] at h2; cases h2.2
  · rw [decide_eq_false h0]
    exact decide_eq_true (cmpL_total h h0)
theorem filt_step {l : List LegV} {k : Nat} {x : LegV} (e : l[k]? = some x) : (l.take (k + 1)).filter nzL = (l.take k).filter nzL ++ if x.amount = 0 then [] else [x] := by
  rw [filt_take e]
  unfold nzL
  by_cases h : x.amount = 0 <;> simp [h]
end Go.Proofs.YtmnnphalljnmhaaDoor
