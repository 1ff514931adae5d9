/-
  Chapter 19, walked: the first error of an entry. Conditions: those that each theorem states.
-/
import Derived.Test.YtmnnphalljnmhaaDoorC19G
namespace Go.Proofs.YtmnnphalljnmhaaDoor
open Go.RowKit
set_option maxRecDepth 100000
set_option linter.unusedSimpArgs false

structure EntV where
  id : Int
  booked : Int
  value : Int
  kind : Int
  auth : Int
  period : Int
  key : ByteArray
  text : ByteArray
  legs : List LegV
  chain : Int
/-- An entry's cells. -/
def entC (e : EntV) : List AV := [.ex (.int .i64 e.id), .ex (.int .i64 e.booked), .ex (.int .i64 e.value), .ex (.int .i64 e.kind), .ex (.int .i64 e.auth), .ex (.int .i64 e.period), .ex (.string e.key), .ex (.string e.text), .sl (legsC e.legs), .ex (.int .u64 e.chain)]
def M12 : Int := 1000000000000
def legX (x : LegV) : Bool := decide (x.account < 1) || decide (x.amount = 0) || decide (x.amount < -1000000000000) || decide (1000000000000 < x.amount)
def legE (x : LegV) : Int := if legX x = true then 1 else if codB x.cur = true then 0 else 14
def legsE : List LegV → Int
  | [] => 0
  | x :: l => if legE x = 0 then legsE l else legE x
def sumE (l : List MonV) : Int := if l.all (fun m => decide (m.amount = 0)) = true then 0 else 15
def badA (e : EntV) : Bool := !textB 32 64 e.text || !dayB e.booked || !dayB e.value || !dayB e.period
def badK (e : EntV) : Bool := decide (e.kind < 1) || decide (14 < e.kind) || decide (e.auth < 0) || decide (3 < e.auth)
def checkE (e : EntV) : Int :=
  if keyB e.key = false then 4 else if badA e = true then 1 else if badK e = true then 1 else if e.legs.length < 2 ∨ 12 < e.legs.length then 5
  else if legsE e.legs = 0 then sumE (sumsL e.legs) else legsE e.legs
theorem legsE_at : ∀ {l : List LegV} {k : Nat} {x : LegV}, l[k]? = some x → (∀ (j : Nat) y, j < k → l[j]? = some y → legE y = 0) → legE x ≠ 0 → legsE l = legE x
  | [], _, _, e, _, _ => by cases e
  | a :: l, 0, x, e, _, h => by cases e; unfold legsE; rw [if_neg h]
  | a :: l, k + 1, x, e, h1, h => by
    unfold legsE
    rw [if_pos (h1 0 a (by omega) rfl)]
    exact legsE_at (k := k) (by simpa using e) (fun j y hj hy => h1 (j + 1) y (by omega) (by simpa using hy)) h
theorem legsE_ok : ∀ {l : List LegV}, (∀ (j : Nat) y, l[j]? = some y → legE y = 0) → legsE l = 0
  | [], _ => rfl
  | a :: l, h => by
    unfold legsE
    rw [if_pos (h 0 a rfl)]
    exact legsE_ok fun j y hy => h (j + 1) y (by simpa using hy)
theorem upto {α : Type} {p : α → Prop} {l : List α} {k : Nat} {x : α} (e : l[k]? = some x) (h : ∀ (j : Nat) y, j < k → l[j]? = some y → p y) (hx : p x) : ∀ (j : Nat) y, j < k + 1 → l[j]? = some y → p y := by
  intro j y hj hy
  rcases Nat.lt_or_ge j k with hl | hl
  · exact h j y hl hy
  · have : j = k := by omega
    subst this
    rw [e] at hy
    rw [← Option.some.inj hy]; exact hx
theorem upto_all {α : Type} {p : α → Prop} {l : List α} {k : Nat} (hk : l.length ≤ k) (h : ∀ (j : Nat) y, j < k → l[j]? = some y → p y) : ∀ (j : Nat) y, l[j]? = some y → p y := fun j y hy => h j y (by have := (List.getElem?_eq_some_iff.1 hy).1; omega) hy
theorem sumE_bad {l : List MonV} {k : Nat} {m : MonV} (e : l[k]? = some m) (h : ¬ m.amount = 0) : sumE l = 15 := by
  unfold sumE
  rw [if_neg]
  intro hh
  have := List.all_eq_true.1 hh m (List.mem_of_getElem? e)
  exact h (of_decide_eq_true this)
theorem sumE_ok {l : List MonV} (h : ∀ (j : Nat) m, l[j]? = some m → m.amount = 0) : sumE l = 0 := by
  unfold sumE
  rw [if_pos]
  rw [List.all_eq_true]
  intro m hm
  obtain ⟨j, hj, rfl⟩ := List.getElem_of_mem hm
  exact decide_eq_true (h j _ (List.getElem?_eq_getElem hj))
/-- The ways of a leg. -/
theorem legE_ways (x : LegV) : (legX x = true ∧ legE x = 1) ∨ (legX x = false ∧ codB x.cur = false ∧ legE x = 14) ∨ (legX x = false ∧ codB x.cur = true ∧ legE x = 0) := by
  unfold legE
  cases legX x <;> cases codB x.cur <;> simp
theorem legX_ways {x : LegV} (h : legX x = true) : x.account < 1 ∨ (1 ≤ x.account ∧ x.amount = 0) ∨ (1 ≤ x.account ∧ ¬ x.amount = 0 ∧ x.amount < -1000000000000) ∨ (1 ≤ x.account ∧ ¬ x.amount = 0 ∧ ¬ x.amount < -1000000000000 ∧ 1000000000000 < x.amount) := by
  unfold legX at h
  simp only [Bool.or_eq_true, decide_eq_true_eq] at h
  omega
theorem legX_no {x : LegV} (h : legX x = false) : 1 ≤ x.account ∧ ¬ x.amount = 0 ∧ ¬ x.amount < -1000000000000 ∧ ¬ 1000000000000 < x.amount := by
  unfold legX at h
  simp only [Bool.or_eq_false_iff, decide_eq_false_iff_not] at h
  omega
theorem Rleg_con (x : LegV) (hs : x.cur.size ≤ 9223372036854775807) : Con Tryd.prog CtxP 72 [.agg [.ex (.int .i64 x.account), .ex (.int .i64 x.amount), .ex (.string x.cur)]] (.val (.ex (.int .i64 (legE x)))) := by
  refine con_val base Tryd.func72 rfl rfl (by kernel_rfl) (Nat.le_of_ble_eq_true rfl) ?_
  rw [init_eq]
  have hc := RCode_con x.cur hs
  rcases legE_ways x with ⟨h1, h2⟩ | ⟨h1, h2, h3⟩ | ⟨h1, h2, h3⟩
  · rcases legX_ways h1 with h | ⟨h4, h⟩ | ⟨h4, h5, h⟩ | ⟨h4, h5, h6, h⟩
    · (repeat' (first | refine awp_seq ?_ | refine awp_block ?_ | (refine awp_ret ?_; simp only [then_ret, block_ret, end_ret]) | ((first | refine vplain ?_ | refine vcond ?_ | refine awp_exit ?_ | refine awp_skip ?_ | refine And.intro (by first | omega | assumption | exact setOk_ge (by decide +kernel)) ?_ | refine nqif_ways (fun h => ?_) ?_ | ((first | refine gif_ways (fun h => ?_) (fun h => ?_) | refine cif_ways (fun h => ?_) (fun h => ?_)) <;> (try simp only [sxn] at h) <;> (try (exfalso; omega)))) <;> (try (simp (disch := omega) only [sx, Value.oneCell', ↓reduceIte, Nat.reduceAdd, Nat.reduceMul, Nat.reduceEqDiff, Nat.reduceLT, Nat.reduceLeDiff, Int.reduceToNat, Int.reduceEq, Int.reduceLT, Int.reduceLE, Int.reduceNe, *])))))
      all_goals simp only [sxd, z0, p0, Nat.reduceEqDiff, ↓reduceIte, Tryd.f72, *]
    · (repeat' (first | refine awp_seq ?_ | refine awp_block ?_ | (refine awp_ret ?_; simp only [then_ret, block_ret, end_ret]) | ((first | refine vplain ?_ | refine vcond ?_ | refine awp_exit ?_ | refine awp_skip ?_ | refine And.intro (by first | omega | assumption | exact setOk_ge (by decide +kernel)) ?_ | refine nqif_ways (fun h => ?_) ?_ | ((first | refine gif_ways (fun h => ?_) (fun h => ?_) | refine cif_ways (fun h => ?_) (fun h => ?_)) <;> (try simp only [sxn] at h) <;> (try (exfalso; omega)))) <;> (try (simp (disch := omega) only [sx, Value.oneCell', ↓reduceIte, Nat.reduceAdd, Nat.reduceMul, Nat.reduceEqDiff, Nat.reduceLT, Nat.reduceLeDiff, Int.reduceToNat, Int.reduceEq, Int.reduceLT, Int.reduceLE, Int.reduceNe, *])))))
      all_goals simp only [sxd, z0, p0, Nat.reduceEqDiff, ↓reduceIte, Tryd.f72, *]
    · (repeat' (first | refine awp_seq ?_ | refine awp_block ?_ | (refine awp_ret ?_; simp only [then_ret, block_ret, end_ret]) | ((first | refine vplain ?_ | refine vcond ?_ | refine awp_exit ?_ | refine awp_skip ?_ | refine And.intro (by first | omega | assumption | exact setOk_ge (by decide +kernel)) ?_ | refine nqif_ways (fun h => ?_) ?_ | ((first | refine gif_ways (fun h => ?_) (fun h => ?_) | refine cif_ways (fun h => ?_) (fun h => ?_)) <;> (try simp only [sxn] at h) <;> (try (exfalso; omega)))) <;> (try (simp (disch := omega) only [sx, Value.oneCell', ↓reduceIte, Nat.reduceAdd, Nat.reduceMul, Nat.reduceEqDiff, Nat.reduceLT, Nat.reduceLeDiff, Int.reduceToNat, Int.reduceEq, Int.reduceLT, Int.reduceLE, Int.reduceNe, *])))))
      all_goals simp only [sxd, z0, p0, Nat.reduceEqDiff, ↓reduceIte, Tryd.f72, *]
    · (repeat' (first | refine awp_seq ?_ | refine awp_block ?_ | (refine awp_ret ?_; simp only [then_ret, block_ret, end_ret]) | ((first | refine vplain ?_ | refine vcond ?_ | refine awp_exit ?_ | refine awp_skip ?_ | refine And.intro (by first | omega | assumption | exact setOk_ge (by decide +kernel)) ?_ | refine nqif_ways (fun h => ?_) ?_ | ((first | refine gif_ways (fun h => ?_) (fun h => ?_) | refine cif_ways (fun h => ?_) (fun h => ?_)) <;> (try simp only [sxn] at h) <;> (try (exfalso; omega)))) <;> (try (simp (disch := omega) only [sx, Value.oneCell', ↓reduceIte, Nat.reduceAdd, Nat.reduceMul, Nat.reduceEqDiff, Nat.reduceLT, Nat.reduceLeDiff, Int.reduceToNat, Int.reduceEq, Int.reduceLT, Int.reduceLE, Int.reduceNe, *])))))
      all_goals simp only [sxd, z0, p0, Nat.reduceEqDiff, ↓reduceIte, Tryd.f72, *]
  · obtain ⟨h4, h5, h6, h7⟩ := legX_no h1
    (repeat' (first | refine awp_seq ?_ | refine awp_block ?_ | (refine awp_ret ?_; simp only [then_ret, block_ret, end_ret]) | ((first | refine call_val (by first | (simp only [sxd, z0, p0, Nat.reduceEqDiff, ↓reduceIte]; (try rfl); done) | (simp (disch := omega) only [sxd, z0, p0, sx, Value.oneCell', ↓reduceIte, Nat.reduceAdd, Nat.reduceMul, Nat.reduceEqDiff, Nat.reduceLT, Nat.reduceLeDiff, Int.reduceToNat, Int.reduceEq, Int.reduceLT, Int.reduceLE, Int.reduceNe, *]; (try rfl); done)) (hc) ?_ | refine vplain ?_ | refine vcond ?_ | refine awp_exit ?_ | refine awp_skip ?_ | refine And.intro (by first | omega | assumption | exact setOk_ge (by decide +kernel)) ?_ | refine nqif_ways (fun h => ?_) ?_ | ((first | refine gif_ways (fun h => ?_) (fun h => ?_) | refine cif_ways (fun h => ?_) (fun h => ?_)) <;> (try simp only [sxn] at h) <;> (try (exfalso; omega)))) <;> (try (simp (disch := omega) only [sx, Value.oneCell', ↓reduceIte, Nat.reduceAdd, Nat.reduceMul, Nat.reduceEqDiff, Nat.reduceLT, Nat.reduceLeDiff, Int.reduceToNat, Int.reduceEq, Int.reduceLT, Int.reduceLE, Int.reduceNe, *])))))
    all_goals simp only [sxd, z0, p0, Nat.reduceEqDiff, ↓reduceIte, Tryd.f72, *]
  · obtain ⟨h4, h5, h6, h7⟩ := legX_no h1
    (repeat' (first | refine awp_seq ?_ | refine awp_block ?_ | (refine awp_ret ?_; simp only [then_ret, block_ret, end_ret]) | ((first | refine call_val (by first | (simp only [sxd, z0, p0, Nat.reduceEqDiff, ↓reduceIte]; (try rfl); done) | (simp (disch := omega) only [sxd, z0, p0, sx, Value.oneCell', ↓reduceIte, Nat.reduceAdd, Nat.reduceMul, Nat.reduceEqDiff, Nat.reduceLT, Nat.reduceLeDiff, Int.reduceToNat, Int.reduceEq, Int.reduceLT, Int.reduceLE, Int.reduceNe, *]; (try rfl); done)) (hc) ?_ | refine vplain ?_ | refine vcond ?_ | refine awp_exit ?_ | refine awp_skip ?_ | refine And.intro (by first | omega | assumption | exact setOk_ge (by decide +kernel)) ?_ | refine nqif_ways (fun h => ?_) ?_ | ((first | refine gif_ways (fun h => ?_) (fun h => ?_) | refine cif_ways (fun h => ?_) (fun h => ?_)) <;> (try simp only [sxn] at h) <;> (try (exfalso; omega)))) <;> (try (simp (disch := omega) only [sx, Value.oneCell', ↓reduceIte, Nat.reduceAdd, Nat.reduceMul, Nat.reduceEqDiff, Nat.reduceLT, Nat.reduceLeDiff, Int.reduceToNat, Int.reduceEq, Int.reduceLT, Int.reduceLE, Int.reduceNe, *])))))
    all_goals simp only [sxd, z0, p0, Nat.reduceEqDiff, ↓reduceIte, Tryd.f72, *]
end Go.Proofs.YtmnnphalljnmhaaDoor
