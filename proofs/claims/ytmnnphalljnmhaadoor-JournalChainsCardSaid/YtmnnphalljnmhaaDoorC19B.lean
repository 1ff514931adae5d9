/-
  Chapter 19, walked: the binary search with a function. Conditions: those that each theorem states.
-/
import Derived.Test.YtmnnphalljnmhaaDoorC19A
namespace Go.Proofs.YtmnnphalljnmhaaDoor
open Go.RowKit
set_option maxRecDepth 100000
set_option linter.unusedSimpArgs false

def bsI {α : Type} (lt : α → Bool) (l : List α) : Nat := (l.takeWhile lt).length
def bsB {α : Type} (lt eq : α → Bool) (l : List α) : Bool := match l[bsI lt l]? with
  | some m => eq m
  | none => false
/-- What is less comes first. -/
def Mono {α : Type} (lt : α → Bool) (l : List α) : Prop := ∀ (i j : Nat) a b, i < j → l[i]? = some a → l[j]? = some b → lt b = true → lt a = true
theorem bs_end {α : Type} {lt : α → Bool} : ∀ {l : List α} {i : Nat}, i ≤ l.length → (∀ (k : Nat) m, k < i → l[k]? = some m → lt m = true) → (∀ (k : Nat) m, i ≤ k → l[k]? = some m → lt m = false) → bsI lt l = i
  | [], i, h, _, _ => by simp at h; subst h; rfl
  | a :: l, 0, _, _, h2 => by
    unfold bsI
    rw [List.takeWhile_cons, h2 0 a (Nat.le_refl _) rfl]; rfl
  | a :: l, i + 1, h, h1, h2 => by
    unfold bsI
    rw [List.takeWhile_cons, h1 0 a (by omega) rfl, if_pos rfl, List.length_cons]
    have := bs_end (l := l) (i := i) (by simpa using h) (fun k m hk e => h1 (k + 1) m (by omega) (by simpa using e)) (fun k m hk e => h2 (k + 1) m (by omega) (by simpa using e))
    unfold bsI at this
    rw [this]
theorem bs_lo {α : Type} {lt : α → Bool} {l : List α} {h : Nat} {m : α} (hm : Mono lt l) (e : l[h]? = some m) (hl : lt m = true) : ∀ (k : Nat) x, k < h + 1 → l[k]? = some x → lt x = true := by
  intro k x hk ex
  rcases Nat.lt_or_ge k h with h1 | h1
  · exact hm k h x m h1 ex e hl
  · have : k = h := by omega
    subst this
    rw [e] at ex
    rw [← Option.some.inj ex]; exact hl
theorem bs_hi {α : Type} {lt : α → Bool} {l : List α} {h : Nat} {m : α} (hm : Mono lt l) (e : l[h]? = some m) (hl : lt m = false) : ∀ (k : Nat) x, h ≤ k → l[k]? = some x → lt x = false := by
  intro k x hk ex
  rcases Nat.lt_or_ge h k with h1 | h1
  · cases hx : lt x with
    | false => rfl
    | true =>
      have := hm h k m x h1 e ex hx
      rw [hl] at this; cases this
  · have : k = h := by omega
    subst this
    rw [e] at ex
    rw [← Option.some.inj ex]; exact hl
theorem bs_found {α : Type} {lt eq : α → Bool} {l : List α} {i : Nat} {m : α} (h : bsI lt l = i) (e : l[i]? = some m) : bsB lt eq l = eq m := by unfold bsB; rw [h, e]
theorem bs_none {α : Type} {lt eq : α → Bool} {l : List α} {i : Nat} (h : bsI lt l = i) (e : l.length ≤ i) : bsB lt eq l = false := by unfold bsB; rw [h, List.getElem?_eq_none e]
theorem mons_len (l : List MonV) : (monsC l).length = l.length := by simp [monsC]
theorem mons_get {l : List MonV} {k : Nat} {m : MonV} (e : l[k]? = some m) : (monsC l)[k]? = some [.ex (.string m.cur), .ex (.int .i64 m.amount)] := by rw [monsC, List.getElem?_map, e]; rfl
theorem legs_len (l : List LegV) : (legsC l).length = l.length := by simp [legsC]
theorem legs_get {l : List LegV} {k : Nat} {m : LegV} (e : l[k]? = some m) : (legsC l)[k]? = some [.ex (.int .i64 m.account), .ex (.int .i64 m.amount), .ex (.string m.cur)] := by rw [legsC, List.getElem?_map, e]; rfl
theorem cmpS_lt {a b : ByteArray} (h : ltS a b = true) : cmpS a b = -1 := by unfold cmpS; rw [if_pos h]
theorem cmpS_ge {a b : ByteArray} (h : ltS a b = false) : cmpS a b = if a = b then 0 else 1 := by unfold cmpS; rw [if_neg (by rw [h]; simp)]

theorem mid_eq {lo hi md : Nat} (hb : lo + hi ≤ 4000000) (h : md = (lo + hi) / 2) : IntKind.i64.wrap (((lo : Int) + (hi : Int)).fdiv (2 ^ (min 1 IntKind.u64.bits))) = (md : Int) := by
  have e2 : (2 : Int) ^ (min 1 IntKind.u64.bits) = 2 := rfl
  rw [e2, Int.fdiv_eq_ediv_of_nonneg _ (by omega), IntKind.wrap_i64]
  omega
theorem BSMoney_con (l : List MonV) (s : ByteArray) (hl : l.length ≤ 1000000) (hm : Mono (fun m : MonV => ltS m.cur s) l) :
    Con Tryd.prog CtxP 73 [.sl (monsC l), .ex (.string s), .ex (.func (.func 74) #[] #[])]
      (.val (.tup [.ex (.int .i64 (bsI (fun m : MonV => ltS m.cur s) l)), .ex (.bool (bsB (fun m : MonV => ltS m.cur s) (fun m => decide (m.cur = s)) l))])) := by
  refine con_val base Tryd.func73 rfl rfl (by kernel_rfl) (Nat.le_of_ble_eq_true rfl) ?_
  rw [init_eq]
  have q1 := mons_len l
  (repeat' (first | refine awp_seq ?_ | refine awp_block ?_ | (refine awp_ret ?_; simp only [then_ret, block_ret, end_ret]) | ((first | refine vplain ?_ | refine vcond ?_ | refine awp_exit ?_ | refine awp_skip ?_ | refine And.intro (by first | omega | assumption | exact setOk_ge (by decide +kernel)) ?_ | refine nqif_ways (fun h => ?_) ?_ | ((first | refine gif_ways (fun h => ?_) (fun h => ?_) | refine cif_ways (fun h => ?_) (fun h => ?_)) <;> (try simp only [sxn] at h) <;> (try (exfalso; omega)))) <;> (try (simp (disch := omega) only [sx, Value.oneCell', ↓reduceIte, Nat.reduceAdd, Nat.reduceMul, Nat.reduceEqDiff, Nat.reduceLT, Nat.reduceLeDiff, Int.reduceToNat, Int.reduceEq, Int.reduceLT, Int.reduceLE, Int.reduceNe, *])))))
  refine vloop (fun n tm hp nx => ∃ lo hi : Nat, n = hi - lo ∧ lo ≤ hi ∧ hi ≤ l.length ∧ tm 0 = .sl (monsC l) ∧ tm 1 = .ex (.string s) ∧ tm 2 = .ex (.func (.func 74) #[] #[]) ∧ tm 8 = .ex (.int .i64 l.length) ∧ tm 9 = .ex (.int .i64 lo) ∧ tm 10 = .ex (.int .i64 hi) ∧
    Hid (∀ (k : Nat) m, k < lo → l[k]? = some m → ltS m.cur s = true) ∧ Hid (∀ (k : Nat) m, hi ≤ k → l[k]? = some m → ltS m.cur s = false)) l.length ⟨0, l.length, rfl, Nat.zero_le _, Nat.le_refl _, by (first | rfl | (simp (disch := omega) only [sx, natS, ↓reduceIte, Nat.reduceAdd, Nat.reduceEqDiff, Nat.reduceLeDiff, *])), by (first | rfl | (simp (disch := omega) only [sx, natS, ↓reduceIte, Nat.reduceAdd, Nat.reduceEqDiff, Nat.reduceLeDiff, *])), by (first | rfl | (simp (disch := omega) only [sx, natS, ↓reduceIte, Nat.reduceAdd, Nat.reduceEqDiff, Nat.reduceLeDiff, *])), by (first | rfl | (simp (disch := omega) only [sx, natS, ↓reduceIte, Nat.reduceAdd, Nat.reduceEqDiff, Nat.reduceLeDiff, *])), by (first | rfl | (simp (disch := omega) only [sx, natS, ↓reduceIte, Nat.reduceAdd, Nat.reduceEqDiff, Nat.reduceLeDiff, *])), by (first | rfl | (simp (disch := omega) only [sx, natS, ↓reduceIte, Nat.reduceAdd, Nat.reduceEqDiff, Nat.reduceLeDiff, *])), Lib.hid (fun k m hk _ => by omega), Lib.hid (fun k m hk e => by rw [List.getElem?_eq_none hk] at e; cases e)⟩ ?_
  rintro n tm hp nx ⟨lo, hi, hn, h1, h2, g0, g1, g2, g8, g9, g10, hL, hH⟩
  by_cases hlt : lo < hi
  · obtain ⟨md, hh⟩ : ∃ h, h = (lo + hi) / 2 := ⟨_, rfl⟩
    have hh1 : lo ≤ md := by omega
    have hh2 : md < hi := by omega
    have hmid := mid_eq (lo := lo) (hi := hi) (by omega) hh
    have e0 : l[md]? = some l[md] := List.getElem?_eq_getElem (by omega)
    generalize l[md] = m at e0
    have q4 := mons_get e0
    clear hh
    cases hc : ltS m.cur s with
    | true =>
      have hr := cmpS_lt hc
      have n1 := Lib.hid (bs_lo hm e0 hc)
      clear e0 hm
      (repeat' (first | refine awp_seq ?_ | refine awp_block ?_ | (refine awp_ret ?_; simp only [then_ret, block_ret, end_ret]) | ((first | refine call_val (by first | (simp only [sxd, z0, p0, Nat.reduceEqDiff, ↓reduceIte]; (try rfl); done) | (simp (disch := omega) only [sxd, z0, p0, sx, Value.oneCell', ↓reduceIte, Nat.reduceAdd, Nat.reduceMul, Nat.reduceEqDiff, Nat.reduceLT, Nat.reduceLeDiff, Int.reduceToNat, Int.reduceEq, Int.reduceLT, Int.reduceLE, Int.reduceNe, *]; (try rfl); done)) (sums1_con m s) ?_ | refine vplain ?_ | refine vcond ?_ | refine awp_exit ?_ | refine awp_skip ?_ | refine And.intro (by first | omega | assumption | exact setOk_ge (by decide +kernel)) ?_ | refine nqif_ways (fun h => ?_) ?_ | ((first | refine gif_ways (fun h => ?_) (fun h => ?_) | refine cif_ways (fun h => ?_) (fun h => ?_)) <;> (try simp only [sxn] at h) <;> (try (exfalso; omega)))) <;> (try (simp (disch := omega) only [sx, Value.oneCell', ↓reduceIte, Nat.reduceAdd, Nat.reduceMul, Nat.reduceEqDiff, Nat.reduceLT, Nat.reduceLeDiff, Int.reduceToNat, Int.reduceEq, Int.reduceLT, Int.reduceLE, Int.reduceNe, *])))))
      exact kround_i (hi - (md + 1)) (by omega) ⟨md + 1, hi, rfl, by omega, h2, by (first | rfl | (simp (disch := omega) only [sx, natS, ↓reduceIte, Nat.reduceAdd, Nat.reduceEqDiff, Nat.reduceLeDiff, *])), by (first | rfl | (simp (disch := omega) only [sx, natS, ↓reduceIte, Nat.reduceAdd, Nat.reduceEqDiff, Nat.reduceLeDiff, *])), by (first | rfl | (simp (disch := omega) only [sx, natS, ↓reduceIte, Nat.reduceAdd, Nat.reduceEqDiff, Nat.reduceLeDiff, *])), by (first | rfl | (simp (disch := omega) only [sx, natS, ↓reduceIte, Nat.reduceAdd, Nat.reduceEqDiff, Nat.reduceLeDiff, *])), by (first | rfl | (simp (disch := omega) only [sx, natS, ↓reduceIte, Nat.reduceAdd, Nat.reduceEqDiff, Nat.reduceLeDiff, *])), by (first | rfl | (simp (disch := omega) only [sx, natS, ↓reduceIte, Nat.reduceAdd, Nat.reduceEqDiff, Nat.reduceLeDiff, *])), n1, hH⟩
    | false =>
      have hr : ¬ cmpS m.cur s < 0 := by rw [cmpS_ge hc]; split <;> omega
      have n1 := Lib.hid (bs_hi hm e0 hc)
      clear e0 hm
      (repeat' (first | refine awp_seq ?_ | refine awp_block ?_ | (refine awp_ret ?_; simp only [then_ret, block_ret, end_ret]) | ((first | refine call_val (by first | (simp only [sxd, z0, p0, Nat.reduceEqDiff, ↓reduceIte]; (try rfl); done) | (simp (disch := omega) only [sxd, z0, p0, sx, Value.oneCell', ↓reduceIte, Nat.reduceAdd, Nat.reduceMul, Nat.reduceEqDiff, Nat.reduceLT, Nat.reduceLeDiff, Int.reduceToNat, Int.reduceEq, Int.reduceLT, Int.reduceLE, Int.reduceNe, *]; (try rfl); done)) (sums1_con m s) ?_ | refine vplain ?_ | refine vcond ?_ | refine awp_exit ?_ | refine awp_skip ?_ | refine And.intro (by first | omega | assumption | exact setOk_ge (by decide +kernel)) ?_ | refine nqif_ways (fun h => ?_) ?_ | ((first | refine gif_ways (fun h => ?_) (fun h => ?_) | refine cif_ways (fun h => ?_) (fun h => ?_)) <;> (try simp only [sxn] at h) <;> (try (exfalso; omega)))) <;> (try (simp (disch := omega) only [sx, Value.oneCell', ↓reduceIte, Nat.reduceAdd, Nat.reduceMul, Nat.reduceEqDiff, Nat.reduceLT, Nat.reduceLeDiff, Int.reduceToNat, Int.reduceEq, Int.reduceLT, Int.reduceLE, Int.reduceNe, *])))))
      exact kround_i (md - lo) (by omega) ⟨lo, md, rfl, hh1, by omega, by (first | rfl | (simp (disch := omega) only [sx, natS, ↓reduceIte, Nat.reduceAdd, Nat.reduceEqDiff, Nat.reduceLeDiff, *])), by (first | rfl | (simp (disch := omega) only [sx, natS, ↓reduceIte, Nat.reduceAdd, Nat.reduceEqDiff, Nat.reduceLeDiff, *])), by (first | rfl | (simp (disch := omega) only [sx, natS, ↓reduceIte, Nat.reduceAdd, Nat.reduceEqDiff, Nat.reduceLeDiff, *])), by (first | rfl | (simp (disch := omega) only [sx, natS, ↓reduceIte, Nat.reduceAdd, Nat.reduceEqDiff, Nat.reduceLeDiff, *])), by (first | rfl | (simp (disch := omega) only [sx, natS, ↓reduceIte, Nat.reduceAdd, Nat.reduceEqDiff, Nat.reduceLeDiff, *])), by (first | rfl | (simp (disch := omega) only [sx, natS, ↓reduceIte, Nat.reduceAdd, Nat.reduceEqDiff, Nat.reduceLeDiff, *])), hL, n1⟩
  · have hlh : lo = hi := by omega
    subst hlh
    have hi0 := bs_end h2 hL.out hH.out
    by_cases hend : lo < l.length
    · have e0 : l[lo]? = some l[lo] := List.getElem?_eq_getElem hend
      generalize l[lo] = m at e0
      have q4 := mons_get e0
      have hb := bs_found (eq := fun m : MonV => decide (m.cur = s)) hi0 e0
      have hge := cmpS_ge (hH.out lo m (Nat.le_refl _) e0)
      by_cases heq : m.cur = s
      · rw [if_pos heq] at hge
        have hb' : bsB (fun m : MonV => ltS m.cur s) (fun m => decide (m.cur = s)) l = true := by rw [hb]; exact decide_eq_true heq
        clear hb heq e0 hm
        (repeat' (first | refine awp_seq ?_ | refine awp_block ?_ | (refine awp_ret ?_; simp only [then_ret, block_ret, end_ret]) | ((first | refine call_val (by first | (simp only [sxd, z0, p0, Nat.reduceEqDiff, ↓reduceIte]; (try rfl); done) | (simp (disch := omega) only [sxd, z0, p0, sx, Value.oneCell', ↓reduceIte, Nat.reduceAdd, Nat.reduceMul, Nat.reduceEqDiff, Nat.reduceLT, Nat.reduceLeDiff, Int.reduceToNat, Int.reduceEq, Int.reduceLT, Int.reduceLE, Int.reduceNe, *]; (try rfl); done)) (sums1_con m s) ?_ | refine vplain ?_ | refine vcond ?_ | refine awp_exit ?_ | refine awp_skip ?_ | refine And.intro (by first | omega | assumption | exact setOk_ge (by decide +kernel)) ?_ | refine nqif_ways (fun h => ?_) ?_ | ((first | refine gif_ways (fun h => ?_) (fun h => ?_) | refine cif_ways (fun h => ?_) (fun h => ?_)) <;> (try simp only [sxn] at h) <;> (try (exfalso; omega)))) <;> (try (simp (disch := omega) only [sx, Value.oneCell', ↓reduceIte, Nat.reduceAdd, Nat.reduceMul, Nat.reduceEqDiff, Nat.reduceLT, Nat.reduceLeDiff, Int.reduceToNat, Int.reduceEq, Int.reduceLT, Int.reduceLE, Int.reduceNe, *])))))
        all_goals simp only [sxd, z0, p0, Nat.reduceEqDiff, ↓reduceIte, Tryd.f73, *]
      · rw [if_neg heq] at hge
        have hb' : bsB (fun m : MonV => ltS m.cur s) (fun m => decide (m.cur = s)) l = false := by rw [hb]; exact decide_eq_false heq
        clear hb heq e0 hm
        (repeat' (first | refine awp_seq ?_ | refine awp_block ?_ | (refine awp_ret ?_; simp only [then_ret, block_ret, end_ret]) | ((first | refine call_val (by first | (simp only [sxd, z0, p0, Nat.reduceEqDiff, ↓reduceIte]; (try rfl); done) | (simp (disch := omega) only [sxd, z0, p0, sx, Value.oneCell', ↓reduceIte, Nat.reduceAdd, Nat.reduceMul, Nat.reduceEqDiff, Nat.reduceLT, Nat.reduceLeDiff, Int.reduceToNat, Int.reduceEq, Int.reduceLT, Int.reduceLE, Int.reduceNe, *]; (try rfl); done)) (sums1_con m s) ?_ | refine vplain ?_ | refine vcond ?_ | refine awp_exit ?_ | refine awp_skip ?_ | refine And.intro (by first | omega | assumption | exact setOk_ge (by decide +kernel)) ?_ | refine nqif_ways (fun h => ?_) ?_ | ((first | refine gif_ways (fun h => ?_) (fun h => ?_) | refine cif_ways (fun h => ?_) (fun h => ?_)) <;> (try simp only [sxn] at h) <;> (try (exfalso; omega)))) <;> (try (simp (disch := omega) only [sx, Value.oneCell', ↓reduceIte, Nat.reduceAdd, Nat.reduceMul, Nat.reduceEqDiff, Nat.reduceLT, Nat.reduceLeDiff, Int.reduceToNat, Int.reduceEq, Int.reduceLT, Int.reduceLE, Int.reduceNe, *])))))
        all_goals simp only [sxd, z0, p0, Nat.reduceEqDiff, ↓reduceIte, Tryd.f73, *]
    · have hb := bs_none (eq := fun m : MonV => decide (m.cur = s)) hi0 (by omega)
      clear hm
      (repeat' (first | refine awp_seq ?_ | refine awp_block ?_ | (refine awp_ret ?_; simp only [then_ret, block_ret, end_ret]) | ((first | refine vplain ?_ | refine vcond ?_ | refine awp_exit ?_ | refine awp_skip ?_ | refine And.intro (by first | omega | assumption | exact setOk_ge (by decide +kernel)) ?_ | refine nqif_ways (fun h => ?_) ?_ | ((first | refine gif_ways (fun h => ?_) (fun h => ?_) | refine cif_ways (fun h => ?_) (fun h => ?_)) <;> (try simp only [sxn] at h) <;> (try (exfalso; omega)))) <;> (try (simp (disch := omega) only [sx, Value.oneCell', ↓reduceIte, Nat.reduceAdd, Nat.reduceMul, Nat.reduceEqDiff, Nat.reduceLT, Nat.reduceLeDiff, Int.reduceToNat, Int.reduceEq, Int.reduceLT, Int.reduceLE, Int.reduceNe, *])))))
      all_goals simp only [sxd, z0, p0, Nat.reduceEqDiff, ↓reduceIte, Tryd.f73, *]
theorem BSLeg_con (l : List LegV) (x : LegV) (hl : l.length ≤ 1000000) (hm : Mono (fun m : LegV => decide (cmpL m x < 0)) l) :
    Con Tryd.prog CtxP 98 [.sl (legsC l), .agg [.ex (.int .i64 x.account), .ex (.int .i64 x.amount), .ex (.string x.cur)], .ex (.func (.func 99) #[] #[])]
      (.val (.tup [.ex (.int .i64 (bsI (fun m : LegV => decide (cmpL m x < 0)) l)), .ex (.bool (bsB (fun m : LegV => decide (cmpL m x < 0)) (fun m => decide (cmpL m x = 0)) l))])) := by
  refine con_val base Tryd.func98 rfl rfl (by kernel_rfl) (Nat.le_of_ble_eq_true rfl) ?_
  rw [init_eq]
  have q1 := legs_len l
  (repeat' (first | refine awp_seq ?_ | refine awp_block ?_ | (refine awp_ret ?_; simp only [then_ret, block_ret, end_ret]) | ((first | refine vplain ?_ | refine vdraws (by kernel_rfl) ?_ | refine vcond ?_ | refine awp_exit ?_ | refine awp_skip ?_ | refine And.intro (by first | omega | assumption | exact setOk_ge (by decide +kernel)) ?_ | refine nqif_ways (fun h => ?_) ?_ | ((first | refine gif_ways (fun h => ?_) (fun h => ?_) | refine cif_ways (fun h => ?_) (fun h => ?_)) <;> (try simp only [sxn] at h) <;> (try (exfalso; omega)))) <;> (try (simp (disch := omega) only [sx, Value.oneCell', ↓reduceIte, Nat.reduceAdd, Nat.reduceMul, Nat.reduceEqDiff, Nat.reduceLT, Nat.reduceLeDiff, Int.reduceToNat, Int.reduceEq, Int.reduceLT, Int.reduceLE, Int.reduceNe, *])))))
  refine vloop (fun n tm hp nx => ∃ (lo hi b : Nat) (β : Row1), n = hi - lo ∧ lo ≤ hi ∧ hi ≤ l.length ∧ tm 0 = .sl (legsC l) ∧ tm 4 = .pt b 0 0 ∧ hp b = some β ∧ β = ⟨62, [[.ex (.int .i64 x.account), .ex (.int .i64 x.amount), .ex (.string x.cur)]], true⟩ ∧ b < nx ∧ tm 2 = .ex (.func (.func 99) #[] #[]) ∧ tm 8 = .ex (.int .i64 l.length) ∧ tm 9 = .ex (.int .i64 lo) ∧ tm 10 = .ex (.int .i64 hi) ∧
    Hid (∀ (k : Nat) m, k < lo → l[k]? = some m → decide (cmpL m x < 0) = true) ∧ Hid (∀ (k : Nat) m, hi ≤ k → l[k]? = some m → decide (cmpL m x < 0) = false)) l.length ⟨0, l.length, _, _, rfl, Nat.zero_le _, Nat.le_refl _, by (first | rfl | (simp (disch := omega) only [sx, natS, ↓reduceIte, Nat.reduceAdd, Nat.reduceEqDiff, Nat.reduceLeDiff, *])), by (simp (disch := omega) only [sx, natS, ↓reduceIte, Nat.reduceAdd, Nat.reduceEqDiff, Nat.reduceLeDiff, *]; (try rfl)), by (simp (disch := omega) only [sx, natS, ↓reduceIte, Nat.reduceAdd, Nat.reduceEqDiff, Nat.reduceLeDiff, *]; (try rfl)), rfl, by omega, by (first | rfl | (simp (disch := omega) only [sx, natS, ↓reduceIte, Nat.reduceAdd, Nat.reduceEqDiff, Nat.reduceLeDiff, *])), by (first | rfl | (simp (disch := omega) only [sx, natS, ↓reduceIte, Nat.reduceAdd, Nat.reduceEqDiff, Nat.reduceLeDiff, *])), by (first | rfl | (simp (disch := omega) only [sx, natS, ↓reduceIte, Nat.reduceAdd, Nat.reduceEqDiff, Nat.reduceLeDiff, *])), by (first | rfl | (simp (disch := omega) only [sx, natS, ↓reduceIte, Nat.reduceAdd, Nat.reduceEqDiff, Nat.reduceLeDiff, *])), Lib.hid (fun k m hk _ => by omega), Lib.hid (fun k m hk e => by rw [List.getElem?_eq_none hk] at e; cases e)⟩ ?_
  rintro n tm hp nx ⟨lo, hi, b, β, hn, h1, h2, g0, g1, gh, rfl, hbx, g2, g8, g9, g10, hL, hH⟩
  by_cases hlt : lo < hi
  · obtain ⟨md, hh⟩ : ∃ h, h = (lo + hi) / 2 := ⟨_, rfl⟩
    have hh1 : lo ≤ md := by omega
    have hh2 : md < hi := by omega
    have hmid := mid_eq (lo := lo) (hi := hi) (by omega) hh
    have e0 : l[md]? = some l[md] := List.getElem?_eq_getElem (by omega)
    generalize l[md] = m at e0
    have q4 := legs_get e0
    clear hh
    cases hc : decide (cmpL m x < 0) with
    | true =>
      have hr := of_decide_eq_true hc
      have n1 := Lib.hid (bs_lo hm e0 hc)
      clear e0 hm
      (repeat' (first | refine awp_seq ?_ | refine awp_block ?_ | (refine awp_ret ?_; simp only [then_ret, block_ret, end_ret]) | ((first | refine call_val (by first | (simp only [sxd, z0, p0, Nat.reduceEqDiff, ↓reduceIte]; (try rfl); done) | (simp (disch := omega) only [sxd, z0, p0, sx, Value.oneCell', ↓reduceIte, Nat.reduceAdd, Nat.reduceMul, Nat.reduceEqDiff, Nat.reduceLT, Nat.reduceLeDiff, Int.reduceToNat, Int.reduceEq, Int.reduceLT, Int.reduceLE, Int.reduceNe, *]; (try rfl); done)) (compare_con m x) ?_ | refine vplain ?_ | refine vdraws (by kernel_rfl) ?_ | refine vcond ?_ | refine awp_exit ?_ | refine awp_skip ?_ | refine And.intro (by first | omega | assumption | exact setOk_ge (by decide +kernel)) ?_ | refine nqif_ways (fun h => ?_) ?_ | ((first | refine gif_ways (fun h => ?_) (fun h => ?_) | refine cif_ways (fun h => ?_) (fun h => ?_)) <;> (try simp only [sxn] at h) <;> (try (exfalso; omega)))) <;> (try (simp (disch := omega) only [sx, Value.oneCell', ↓reduceIte, Nat.reduceAdd, Nat.reduceMul, Nat.reduceEqDiff, Nat.reduceLT, Nat.reduceLeDiff, Int.reduceToNat, Int.reduceEq, Int.reduceLT, Int.reduceLE, Int.reduceNe, *])))))
      exact kround_i (hi - (md + 1)) (by omega) ⟨md + 1, hi, b, _, rfl, by omega, h2, by (first | rfl | (simp (disch := omega) only [sx, natS, ↓reduceIte, Nat.reduceAdd, Nat.reduceEqDiff, Nat.reduceLeDiff, *])), by (first | rfl | (simp (disch := omega) only [sx, natS, ↓reduceIte, Nat.reduceAdd, Nat.reduceEqDiff, Nat.reduceLeDiff, *])), by (simp (disch := omega) only [sx, natS, ↓reduceIte, Nat.reduceAdd, Nat.reduceEqDiff, Nat.reduceLeDiff, *]; (try rfl)), rfl, by omega, by (first | rfl | (simp (disch := omega) only [sx, natS, ↓reduceIte, Nat.reduceAdd, Nat.reduceEqDiff, Nat.reduceLeDiff, *])), by (first | rfl | (simp (disch := omega) only [sx, natS, ↓reduceIte, Nat.reduceAdd, Nat.reduceEqDiff, Nat.reduceLeDiff, *])), by (first | rfl | (simp (disch := omega) only [sx, natS, ↓reduceIte, Nat.reduceAdd, Nat.reduceEqDiff, Nat.reduceLeDiff, *])), by (first | rfl | (simp (disch := omega) only [sx, natS, ↓reduceIte, Nat.reduceAdd, Nat.reduceEqDiff, Nat.reduceLeDiff, *])), n1, hH⟩
    | false =>
      have hr := of_decide_eq_false hc
      have n1 := Lib.hid (bs_hi hm e0 hc)
      clear e0 hm
      (repeat' (first | refine awp_seq ?_ | refine awp_block ?_ | (refine awp_ret ?_; simp only [then_ret, block_ret, end_ret]) | ((first | refine call_val (by first | (simp only [sxd, z0, p0, Nat.reduceEqDiff, ↓reduceIte]; (try rfl); done) | (simp (disch := omega) only [sxd, z0, p0, sx, Value.oneCell', ↓reduceIte, Nat.reduceAdd, Nat.reduceMul, Nat.reduceEqDiff, Nat.reduceLT, Nat.reduceLeDiff, Int.reduceToNat, Int.reduceEq, Int.reduceLT, Int.reduceLE, Int.reduceNe, *]; (try rfl); done)) (compare_con m x) ?_ | refine vplain ?_ | refine vdraws (by kernel_rfl) ?_ | refine vcond ?_ | refine awp_exit ?_ | refine awp_skip ?_ | refine And.intro (by first | omega | assumption | exact setOk_ge (by decide +kernel)) ?_ | refine nqif_ways (fun h => ?_) ?_ | ((first | refine gif_ways (fun h => ?_) (fun h => ?_) | refine cif_ways (fun h => ?_) (fun h => ?_)) <;> (try simp only [sxn] at h) <;> (try (exfalso; omega)))) <;> (try (simp (disch := omega) only [sx, Value.oneCell', ↓reduceIte, Nat.reduceAdd, Nat.reduceMul, Nat.reduceEqDiff, Nat.reduceLT, Nat.reduceLeDiff, Int.reduceToNat, Int.reduceEq, Int.reduceLT, Int.reduceLE, Int.reduceNe, *])))))
      exact kround_i (md - lo) (by omega) ⟨lo, md, b, _, rfl, hh1, by omega, by (first | rfl | (simp (disch := omega) only [sx, natS, ↓reduceIte, Nat.reduceAdd, Nat.reduceEqDiff, Nat.reduceLeDiff, *])), by (first | rfl | (simp (disch := omega) only [sx, natS, ↓reduceIte, Nat.reduceAdd, Nat.reduceEqDiff, Nat.reduceLeDiff, *])), by (simp (disch := omega) only [sx, natS, ↓reduceIte, Nat.reduceAdd, Nat.reduceEqDiff, Nat.reduceLeDiff, *]; (try rfl)), rfl, by omega, by (first | rfl | (simp (disch := omega) only [sx, natS, ↓reduceIte, Nat.reduceAdd, Nat.reduceEqDiff, Nat.reduceLeDiff, *])), by (first | rfl | (simp (disch := omega) only [sx, natS, ↓reduceIte, Nat.reduceAdd, Nat.reduceEqDiff, Nat.reduceLeDiff, *])), by (first | rfl | (simp (disch := omega) only [sx, natS, ↓reduceIte, Nat.reduceAdd, Nat.reduceEqDiff, Nat.reduceLeDiff, *])), by (first | rfl | (simp (disch := omega) only [sx, natS, ↓reduceIte, Nat.reduceAdd, Nat.reduceEqDiff, Nat.reduceLeDiff, *])), hL, n1⟩
  · have hlh : lo = hi := by omega
    subst hlh
    have hi0 := bs_end h2 hL.out hH.out
    by_cases hend : lo < l.length
    · have e0 : l[lo]? = some l[lo] := List.getElem?_eq_getElem hend
      generalize l[lo] = m at e0
      have q4 := legs_get e0
      have hb := bs_found (eq := fun m : LegV => decide (cmpL m x = 0)) hi0 e0
      by_cases heq : cmpL m x = 0
      · have hq := Lib.hid heq
        have hb' : bsB (fun m : LegV => decide (cmpL m x < 0)) (fun m => decide (cmpL m x = 0)) l = true := by rw [hb]; exact decide_eq_true heq
        clear hb e0 hm
        (repeat' (first | refine awp_seq ?_ | refine awp_block ?_ | (refine awp_ret ?_; simp only [then_ret, block_ret, end_ret]) | ((first | refine call_val (by first | (simp only [sxd, z0, p0, Nat.reduceEqDiff, ↓reduceIte]; (try rfl); done) | (simp (disch := omega) only [sxd, z0, p0, sx, Value.oneCell', ↓reduceIte, Nat.reduceAdd, Nat.reduceMul, Nat.reduceEqDiff, Nat.reduceLT, Nat.reduceLeDiff, Int.reduceToNat, Int.reduceEq, Int.reduceLT, Int.reduceLE, Int.reduceNe, *]; (try rfl); done)) (compare_con m x) ?_ | refine vplain ?_ | refine vdraws (by kernel_rfl) ?_ | refine vcond ?_ | refine awp_exit ?_ | refine awp_skip ?_ | refine And.intro (by first | omega | assumption | exact setOk_ge (by decide +kernel)) ?_ | refine nqif_ways (fun h => ?_) ?_ | ((first | refine gif_ways (fun h => ?_) (fun h => ?_) | refine cif_ways (fun h => ?_) (fun h => ?_)) <;> (try simp only [sxn] at h) <;> (try (exfalso; omega)))) <;> (try (simp (disch := omega) only [sx, Value.oneCell', ↓reduceIte, Nat.reduceAdd, Nat.reduceMul, Nat.reduceEqDiff, Nat.reduceLT, Nat.reduceLeDiff, Int.reduceToNat, Int.reduceEq, Int.reduceLT, Int.reduceLE, Int.reduceNe, *])))))
        all_goals simp only [sxd, z0, p0, Nat.reduceEqDiff, ↓reduceIte, Tryd.f98, *]
      · have hq := Lib.hid heq
        have hb' : bsB (fun m : LegV => decide (cmpL m x < 0)) (fun m => decide (cmpL m x = 0)) l = false := by rw [hb]; exact decide_eq_false heq
        clear hb e0 hm
        (repeat' (first | refine awp_seq ?_ | refine awp_block ?_ | (refine awp_ret ?_; simp only [then_ret, block_ret, end_ret]) | ((first | refine call_val (by first | (simp only [sxd, z0, p0, Nat.reduceEqDiff, ↓reduceIte]; (try rfl); done) | (simp (disch := omega) only [sxd, z0, p0, sx, Value.oneCell', ↓reduceIte, Nat.reduceAdd, Nat.reduceMul, Nat.reduceEqDiff, Nat.reduceLT, Nat.reduceLeDiff, Int.reduceToNat, Int.reduceEq, Int.reduceLT, Int.reduceLE, Int.reduceNe, *]; (try rfl); done)) (compare_con m x) ?_ | refine vplain ?_ | refine vdraws (by kernel_rfl) ?_ | refine vcond ?_ | refine awp_exit ?_ | refine awp_skip ?_ | refine And.intro (by first | omega | assumption | exact setOk_ge (by decide +kernel)) ?_ | refine nqif_ways (fun h => ?_) ?_ | ((first | refine gif_ways (fun h => ?_) (fun h => ?_) | refine cif_ways (fun h => ?_) (fun h => ?_)) <;> (try simp only [sxn] at h) <;> (try (exfalso; omega)))) <;> (try (simp (disch := omega) only [sx, Value.oneCell', ↓reduceIte, Nat.reduceAdd, Nat.reduceMul, Nat.reduceEqDiff, Nat.reduceLT, Nat.reduceLeDiff, Int.reduceToNat, Int.reduceEq, Int.reduceLT, Int.reduceLE, Int.reduceNe, *])))))
        all_goals simp only [sxd, z0, p0, Nat.reduceEqDiff, ↓reduceIte, Tryd.f98, *]
    · have hb := bs_none (eq := fun m : LegV => decide (cmpL m x = 0)) hi0 (by omega)
      clear hm
      (repeat' (first | refine awp_seq ?_ | refine awp_block ?_ | (refine awp_ret ?_; simp only [then_ret, block_ret, end_ret]) | ((first | refine vplain ?_ | refine vdraws (by kernel_rfl) ?_ | refine vcond ?_ | refine awp_exit ?_ | refine awp_skip ?_ | refine And.intro (by first | omega | assumption | exact setOk_ge (by decide +kernel)) ?_ | refine nqif_ways (fun h => ?_) ?_ | ((first | refine gif_ways (fun h => ?_) (fun h => ?_) | refine cif_ways (fun h => ?_) (fun h => ?_)) <;> (try simp only [sxn] at h) <;> (try (exfalso; omega)))) <;> (try (simp (disch := omega) only [sx, Value.oneCell', ↓reduceIte, Nat.reduceAdd, Nat.reduceMul, Nat.reduceEqDiff, Nat.reduceLT, Nat.reduceLeDiff, Int.reduceToNat, Int.reduceEq, Int.reduceLT, Int.reduceLE, Int.reduceNe, *])))))
      all_goals simp only [sxd, z0, p0, Nat.reduceEqDiff, ↓reduceIte, Tryd.f98, *]
end Go.Proofs.YtmnnphalljnmhaaDoor
