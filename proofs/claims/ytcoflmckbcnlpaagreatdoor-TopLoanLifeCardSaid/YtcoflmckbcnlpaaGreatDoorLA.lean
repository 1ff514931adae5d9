/-
  Days and months, walked. Conditions: those that each theorem states. More of the kind.
-/
import Derived.Test.YtcoflmckbcnlpaaGreatDoorE0
import Derived.Test.YtcoflmckbcnlpaaGreatDoorEqs
import Derived.Test.YtcoflmckbcnlpaaGreatDoorGT
namespace Go.Proofs.YtcoflmckbcnlpaaGreatDoor
open Go.RowKit
set_option maxRecDepth 100000
set_option linter.unusedSimpArgs false
def daysC : List AV := [.ex (.int .i64 0), .ex (.int .i64 31), .ex (.int .i64 28), .ex (.int .i64 31), .ex (.int .i64 30), .ex (.int .i64 31), .ex (.int .i64 30), .ex (.int .i64 31), .ex (.int .i64 31), .ex (.int .i64 30), .ex (.int .i64 31), .ex (.int .i64 30), .ex (.int .i64 31)]
theorem build_arr {P : Program} {C : World → Prop} {id t ty n e : Nat} {σ : AS} {hp : Nat → Option Row1} {k : AV → Eff → Prop} {parts : List (Nat × Operand)} {cs : List AV} (hk : (aty P t).k = .arr n e) (h1 : (aty P t).zero.length = (aty P t).sz ∧ 0 < (aty P t).sz ∧ (aty P t).zero.all (·.oneCell') = true) (h2 : 0 < (aty P e).sz)
    (h3 : fillA (fun i => some (i * (aty P e).sz, (aty P e).sz)) ((aty P t).zero.map .ex) (parts.map fun x => (x.1, AS.ev σ x.2)) = some cs) : aval P C id (.build t parts.toArray) ty σ.ev hp k = k (.agg cs) .none := by
  rw [ev_build, hk]
  dsimp only
  rw [h3]
  exact propext ⟨fun h => h.2.2, fun h => ⟨h1, h2, h⟩⟩
theorem build_days {C : World → Prop} {id ty : Nat} {σ : AS} {hp : Nat → Option Row1} {k : AV → Eff → Prop} : aval Tryz.prog C id (.build 204 #[(0, .const (.int .i64 0)), (1, .const (.int .i64 31)), (2, .const (.int .i64 28)), (3, .const (.int .i64 31)), (4, .const (.int .i64 30)), (5, .const (.int .i64 31)), (6, .const (.int .i64 30)), (7, .const (.int .i64 31)), (8, .const (.int .i64 31)), (9, .const (.int .i64 30)), (10, .const (.int .i64 31)), (11, .const (.int .i64 30)), (12, .const (.int .i64 31))]) ty σ.ev hp k = k (.agg daysC) .none :=
  build_arr (parts := [(0, .const (.int .i64 0)), (1, .const (.int .i64 31)), (2, .const (.int .i64 28)), (3, .const (.int .i64 31)), (4, .const (.int .i64 30)), (5, .const (.int .i64 31)), (6, .const (.int .i64 30)), (7, .const (.int .i64 31)), (8, .const (.int .i64 31)), (9, .const (.int .i64 30)), (10, .const (.int .i64 31)), (11, .const (.int .i64 30)), (12, .const (.int .i64 31))]) (n := 13) (e := 3) (by rw [ty_204]) (by rw [ty_204]; exact ⟨rfl, by decide, rfl⟩) (by rw [ty_3]; decide) (by kernel_rfl)
def dayB (x : Int) : Bool := decide (0 ≤ x) && decide (x ≤ 73048)
theorem dayB_iff {x : Int} : dayB x = true ↔ 0 ≤ x ∧ x ≤ 73048 := by unfold dayB; rw [Bool.and_eq_true, decide_eq_true_eq, decide_eq_true_eq]
theorem dayB_yes {x : Int} (h0 : 0 ≤ x) (h1 : x ≤ 73048) : dayB x = true := dayB_iff.2 ⟨h0, h1⟩
theorem dayValid_con (x : Int) : Con Tryz.prog CtxP 80 [.ex (.int .i64 x)] (.val (.ex (.bool (dayB x)))) := by
  refine con_val base Tryz.func80 rfl rfl (by kernel_rfl) (Nat.le_of_ble_eq_true rfl) ?_
  rw [init_eq]
  by_cases h1 : 0 ≤ x
  · have hr : dayB x = decide (x ≤ 73048) := by unfold dayB; rw [decide_eq_true h1, Bool.true_and]
    (repeat' (first | exact trivial | refine stq ?_ | (refine awp_ret ?_; simp only [then_ret, block_ret, end_ret]) | ((first | refine stp ?_ | refine nqif_ways (fun h => ?_) ?_ | ((first | refine gif_ways (fun h => ?_) (fun h => ?_) | refine cif_ways (fun h => ?_) (fun h => ?_)) <;> (try simp only [sxn] at h) <;> (try (exfalso; omega)))) <;> (try (simp (disch := omega) only [↓build_days, daysC, sx, Value.oneCell', ↓reduceIte, Nat.reduceAdd, Nat.reduceMul, Nat.reduceEqDiff, Nat.reduceLT, Nat.reduceLeDiff, Int.reduceToNat, Int.reduceEq, Int.reduceLT, Int.reduceLE, Int.reduceNe, *])))))
    all_goals simp only [sxd, z0, p0, Nat.reduceEqDiff, ↓reduceIte, Tryz.f80, *]
  · have hr : dayB x = false := by unfold dayB; rw [decide_eq_false h1, Bool.false_and]
    (repeat' (first | exact trivial | refine stq ?_ | (refine awp_ret ?_; simp only [then_ret, block_ret, end_ret]) | ((first | refine stp ?_ | refine nqif_ways (fun h => ?_) ?_ | ((first | refine gif_ways (fun h => ?_) (fun h => ?_) | refine cif_ways (fun h => ?_) (fun h => ?_)) <;> (try simp only [sxn] at h) <;> (try (exfalso; omega)))) <;> (try (simp (disch := omega) only [↓build_days, daysC, sx, Value.oneCell', ↓reduceIte, Nat.reduceAdd, Nat.reduceMul, Nat.reduceEqDiff, Nat.reduceLT, Nat.reduceLeDiff, Int.reduceToNat, Int.reduceEq, Int.reduceLT, Int.reduceLE, Int.reduceNe, *])))))
    all_goals simp only [sxd, z0, p0, Nat.reduceEqDiff, ↓reduceIte, Tryz.f80, *]
theorem RdayValid_con (x : Int) : Con Tryz.prog CtxP 32 [.ex (.int .i64 x)] (.val (.ex (.bool (dayB x)))) := by
  refine con_val base Tryz.func32 rfl rfl (by kernel_rfl) (Nat.le_of_ble_eq_true rfl) ?_
  rw [init_eq]
  by_cases h1 : 0 ≤ x
  · have hr : dayB x = decide (x ≤ 73048) := by unfold dayB; rw [decide_eq_true h1, Bool.true_and]
    (repeat' (first | exact trivial | refine stq ?_ | (refine awp_ret ?_; simp only [then_ret, block_ret, end_ret]) | ((first | refine stp ?_ | refine nqif_ways (fun h => ?_) ?_ | ((first | refine gif_ways (fun h => ?_) (fun h => ?_) | refine cif_ways (fun h => ?_) (fun h => ?_)) <;> (try simp only [sxn] at h) <;> (try (exfalso; omega)))) <;> (try (simp (disch := omega) only [↓build_days, daysC, sx, Value.oneCell', ↓reduceIte, Nat.reduceAdd, Nat.reduceMul, Nat.reduceEqDiff, Nat.reduceLT, Nat.reduceLeDiff, Int.reduceToNat, Int.reduceEq, Int.reduceLT, Int.reduceLE, Int.reduceNe, *])))))
    all_goals simp only [sxd, z0, p0, Nat.reduceEqDiff, ↓reduceIte, Tryz.f32, *]
  · have hr : dayB x = false := by unfold dayB; rw [decide_eq_false h1, Bool.false_and]
    (repeat' (first | exact trivial | refine stq ?_ | (refine awp_ret ?_; simp only [then_ret, block_ret, end_ret]) | ((first | refine stp ?_ | refine nqif_ways (fun h => ?_) ?_ | ((first | refine gif_ways (fun h => ?_) (fun h => ?_) | refine cif_ways (fun h => ?_) (fun h => ?_)) <;> (try simp only [sxn] at h) <;> (try (exfalso; omega)))) <;> (try (simp (disch := omega) only [↓build_days, daysC, sx, Value.oneCell', ↓reduceIte, Nat.reduceAdd, Nat.reduceMul, Nat.reduceEqDiff, Nat.reduceLT, Nat.reduceLeDiff, Int.reduceToNat, Int.reduceEq, Int.reduceLT, Int.reduceLE, Int.reduceNe, *])))))
    all_goals simp only [sxd, z0, p0, Nat.reduceEqDiff, ↓reduceIte, Tryz.f32, *]
theorem tmod_nn {a b : Int} (h : 0 ≤ a) : a.tmod b = a % b := Int.tmod_eq_emod_of_nonneg h
theorem tdiv_nn {a b : Int} (h : 0 ≤ a) : a.tdiv b = a / b := Int.tdiv_eq_ediv_of_nonneg h
theorem Leap_con (y : Int) (h0 : 0 ≤ y) : Con Tryz.prog CtxP 133 [.ex (.int .i64 y)] (.val (.ex (.bool (leapB y)))) := by
  have e1 : y.tmod 4 = y % 4 := tmod_nn h0
  have e2 : y.tmod 100 = y % 100 := tmod_nn h0
  have e3 : y.tmod 400 = y % 400 := tmod_nn h0
  refine con_val base Tryz.func133 rfl rfl (by kernel_rfl) (Nat.le_of_ble_eq_true rfl) ?_
  rw [init_eq]
  (repeat' (first | exact trivial | refine stq ?_ | (refine awp_ret ?_; simp only [then_ret, block_ret, end_ret]) | ((first | refine stp ?_ | refine nqif_ways (fun h => ?_) ?_ | ((first | refine gif_ways (fun h => ?_) (fun h => ?_) | refine cif_ways (fun h => ?_) (fun h => ?_)) <;> (try simp only [sxn] at h) <;> (try (exfalso; omega)))) <;> (try (simp (disch := omega) only [↓build_days, daysC, sx, Value.oneCell', ↓reduceIte, Nat.reduceAdd, Nat.reduceMul, Nat.reduceEqDiff, Nat.reduceLT, Nat.reduceLeDiff, Int.reduceToNat, Int.reduceEq, Int.reduceLT, Int.reduceLE, Int.reduceNe, *])))))
  all_goals (try simp only [sxd, z0, p0, Nat.reduceEqDiff, ↓reduceIte, Tryz.f133])
  all_goals (simp only [e1, e2, e3] at *; simp [leapB, *])
theorem mlen_two (y : Int) : mlen y 2 = if leapB y = true then 29 else 28 := by unfold mlen; rw [if_pos rfl]
theorem length_con (y m : Int) (h0 : 0 ≤ y) (h1 : 1 ≤ m) (h2 : m ≤ 12) : Con Tryz.prog CtxP 93 [.ex (.int .i64 y), .ex (.int .i64 m)] (.val (.ex (.int .i64 (mlen y m)))) := by
  have hm : m = 1 ∨ m = 2 ∨ m = 3 ∨ m = 4 ∨ m = 5 ∨ m = 6 ∨ m = 7 ∨ m = 8 ∨ m = 9 ∨ m = 10 ∨ m = 11 ∨ m = 12 := by omega
  have hL := Leap_con y h0
  rcases hm with rfl | rfl | rfl | rfl | rfl | rfl | rfl | rfl | rfl | rfl | rfl | rfl
  case inr.inl =>
    rw [mlen_two]
    cases hl : leapB y with
    | true =>
      rw [hl] at hL
      (refine con_val base Tryz.func93 rfl rfl (by kernel_rfl) (Nat.le_of_ble_eq_true rfl) ?_; rw [init_eq])
      (repeat' (first | exact trivial | refine stq ?_ | (refine awp_ret ?_; simp only [then_ret, block_ret, end_ret]) | ((first | refine cv (hL) ?_ | refine stp ?_ | refine nqif_ways (fun h => ?_) ?_ | ((first | refine gif_ways (fun h => ?_) (fun h => ?_) | refine cif_ways (fun h => ?_) (fun h => ?_)) <;> (try simp only [sxn] at h) <;> (try (exfalso; omega)))) <;> (try (simp (disch := omega) only [↓build_days, daysC, sx, Value.oneCell', ↓reduceIte, Nat.reduceAdd, Nat.reduceMul, Nat.reduceEqDiff, Nat.reduceLT, Nat.reduceLeDiff, Int.reduceToNat, Int.reduceEq, Int.reduceLT, Int.reduceLE, Int.reduceNe, *])))))
      all_goals simp only [sxd, z0, p0, Nat.reduceEqDiff, ↓reduceIte, Tryz.f93, *]
    | false =>
      rw [hl] at hL
      (refine con_val base Tryz.func93 rfl rfl (by kernel_rfl) (Nat.le_of_ble_eq_true rfl) ?_; rw [init_eq])
      (repeat' (first | exact trivial | refine stq ?_ | (refine awp_ret ?_; simp only [then_ret, block_ret, end_ret]) | ((first | refine cv (hL) ?_ | refine stp ?_ | refine nqif_ways (fun h => ?_) ?_ | ((first | refine gif_ways (fun h => ?_) (fun h => ?_) | refine cif_ways (fun h => ?_) (fun h => ?_)) <;> (try simp only [sxn] at h) <;> (try (exfalso; omega)))) <;> (try (simp (disch := omega) only [↓build_days, daysC, sx, Value.oneCell', ↓reduceIte, Nat.reduceAdd, Nat.reduceMul, Nat.reduceEqDiff, Nat.reduceLT, Nat.reduceLeDiff, Int.reduceToNat, Int.reduceEq, Int.reduceLT, Int.reduceLE, Int.reduceNe, *])))))
      all_goals simp only [sxd, z0, p0, Nat.reduceEqDiff, ↓reduceIte, Tryz.f93, *]
  all_goals
    (refine con_val base Tryz.func93 rfl rfl (by kernel_rfl) (Nat.le_of_ble_eq_true rfl) ?_; rw [init_eq])
    (repeat' (first | exact trivial | refine stq ?_ | (refine awp_ret ?_; simp only [then_ret, block_ret, end_ret]) | ((first | refine stp ?_ | refine nqif_ways (fun h => ?_) ?_ | ((first | refine gif_ways (fun h => ?_) (fun h => ?_) | refine cif_ways (fun h => ?_) (fun h => ?_)) <;> (try simp only [sxn] at h) <;> (try (exfalso; omega)))) <;> (try (simp (disch := omega) only [↓build_days, daysC, sx, Value.oneCell', ↓reduceIte, Nat.reduceAdd, Nat.reduceMul, Nat.reduceEqDiff, Nat.reduceLT, Nat.reduceLeDiff, Int.reduceToNat, Int.reduceEq, Int.reduceLT, Int.reduceLE, Int.reduceNe, *])))))
    all_goals simp only [sxd, z0, p0, Nat.reduceEqDiff, ↓reduceIte, Tryz.f93, mlen]
    all_goals rfl
theorem begin_con (y : Int) (h0 : 2000 ≤ y) (h1 : y ≤ 2200) : Con Tryz.prog CtxP 92 [.ex (.int .i64 y)] (.val (.ex (.int .i64 (beg y)))) := by
  have e1 : (y - 2000 + 3).tdiv 4 = (y - 2000 + 3) / 4 := tdiv_nn (by omega)
  by_cases h : 2100 < y
  · have hr : beg y = 365 * (y - 2000) + ((y - 2000 + 3) / 4 - 1) := by unfold beg; rw [if_pos h]; omega
    (refine con_val base Tryz.func92 rfl rfl (by kernel_rfl) (Nat.le_of_ble_eq_true rfl) ?_; rw [init_eq])
    (repeat' (first | exact trivial | refine stq ?_ | (refine awp_ret ?_; simp only [then_ret, block_ret, end_ret]) | ((first | refine stp ?_ | refine nqif_ways (fun h => ?_) ?_ | ((first | refine gif_ways (fun h => ?_) (fun h => ?_) | refine cif_ways (fun h => ?_) (fun h => ?_)) <;> (try simp only [sxn] at h) <;> (try (exfalso; omega)))) <;> (try (simp (disch := omega) only [↓build_days, daysC, sx, Value.oneCell', ↓reduceIte, Nat.reduceAdd, Nat.reduceMul, Nat.reduceEqDiff, Nat.reduceLT, Nat.reduceLeDiff, Int.reduceToNat, Int.reduceEq, Int.reduceLT, Int.reduceLE, Int.reduceNe, *])))))
    all_goals simp only [sxd, z0, p0, Nat.reduceEqDiff, ↓reduceIte, Tryz.f92, *]
  · have hr : beg y = 365 * (y - 2000) + (y - 2000 + 3) / 4 := by unfold beg; rw [if_neg h]; omega
    (refine con_val base Tryz.func92 rfl rfl (by kernel_rfl) (Nat.le_of_ble_eq_true rfl) ?_; rw [init_eq])
    (repeat' (first | exact trivial | refine stq ?_ | (refine awp_ret ?_; simp only [then_ret, block_ret, end_ret]) | ((first | refine stp ?_ | refine nqif_ways (fun h => ?_) ?_ | ((first | refine gif_ways (fun h => ?_) (fun h => ?_) | refine cif_ways (fun h => ?_) (fun h => ?_)) <;> (try simp only [sxn] at h) <;> (try (exfalso; omega)))) <;> (try (simp (disch := omega) only [↓build_days, daysC, sx, Value.oneCell', ↓reduceIte, Nat.reduceAdd, Nat.reduceMul, Nat.reduceEqDiff, Nat.reduceLT, Nat.reduceLeDiff, Int.reduceToNat, Int.reduceEq, Int.reduceLT, Int.reduceLE, Int.reduceNe, *])))))
    all_goals simp only [sxd, z0, p0, Nat.reduceEqDiff, ↓reduceIte, Tryz.f92, *]
end Go.Proofs.YtcoflmckbcnlpaaGreatDoor
namespace Go.Proofs.YtcoflmckbcnlpaaGreatDoor
open Go.RowKit
set_option maxRecDepth 100000
set_option linter.unusedSimpArgs false
theorem civ_ex {x : Int} (h0 : 0 ≤ x) (h1 : x ≤ 73048) : ∃ y m d, IsCiv x y m d := by
  have hy : ∀ k : Nat, k ≤ 200 → x < beg (2000 + k) → ∃ j : Nat, j < k ∧ beg (2000 + j) ≤ x ∧ x < beg (2000 + j + 1) := by
    intro k
    induction k with
    | zero => intro _ h; have : beg (2000 + (0 : Nat)) = 0 := by decide
              omega
    | succ k ih =>
      intro hk h
      rcases Int.lt_or_le x (beg (2000 + k)) with h2 | h2
      · obtain ⟨j, a, b⟩ := ih (by omega) h2
        exact ⟨j, by omega, b⟩
      · exact ⟨k, by omega, h2, by rw [show (2000 : Int) + k + 1 = 2000 + ((k + 1 : Nat) : Int) by omega]; exact h⟩
  have hm : ∀ (y z : Int) (k : Nat), 0 ≤ z → z < cum y k → ∃ j : Nat, j < k ∧ cum y j ≤ z ∧ z < cum y (j + 1) := by
    intro y z k
    induction k with
    | zero => intro a h; unfold cum at h; omega
    | succ k ih =>
      intro a h
      rcases Int.lt_or_le z (cum y k) with h2 | h2
      · obtain ⟨j, b, c⟩ := ih a h2
        exact ⟨j, by omega, c⟩
      · exact ⟨k, by omega, h2, h⟩
  obtain ⟨j, j1, j2, j3⟩ := hy 200 (Nat.le_refl _) (by
    have : beg (2000 + (200 : Nat)) = 73049 := by decide
    omega)
  rw [beg_next (by omega) (by omega)] at j3
  obtain ⟨k, k1, k2, k3⟩ := hm (2000 + j) (x - beg (2000 + j)) 12 (by omega) (by omega)
  have e : cum (2000 + j) (k + 1) = cum (2000 + j) k + mlen (2000 + j) ((k : Int) + 1) := rfl
  refine ⟨2000 + j, k + 1, x - beg (2000 + j) - cum (2000 + j) k + 1, by omega, by omega, by omega, by omega, by omega, by omega, ?_⟩
  rw [show ((k : Int) + 1).toNat - 1 = k by omega]; omega
theorem beg_le366 {y : Int} (h : 2000 ≤ y) : beg y ≤ 366 * (y - 2000) := by
  unfold beg; split <;> omega
theorem beg_ge0 {y : Int} (h : 2000 ≤ y) (h2 : y ≤ 2200) : 0 ≤ beg y ∧ beg y ≤ 73049 := by
  unfold beg; split <;> omega
theorem civ_beg {x y m d : Int} (h : IsCiv x y m d) : beg y ≤ x ∧ x < beg (y + 1) ∧ x - beg y - cum y (m.toNat - 1) = d - 1 := by
  have a := h.e
  have b := cum_ge0 y (m.toNat - 1)
  have c := h.d1
  have e := cum_at (y := y) h.m1
  have f := cum_le (y := y) (a := m.toNat) (b := 12) (by have := h.m2; omega)
  have g := beg_next h.y1 h.y2
  have i := h.d2
  omega
theorem cum_up (y : Int) (k : Nat) (h : k ≤ 12) : 0 ≤ cum y k ∧ cum y k ≤ 366 := by
  have := cum_le (y := y) (a := k) (b := 12) h
  rw [cum12] at this
  refine ⟨cum_ge0 y k, ?_⟩
  split at this <;> omega
theorem Civil_con {x y m d : Int} (hc : IsCiv x y m d) : Con Tryz.prog CtxP 54 [.ex (.int .i64 x)] (.val (.tup [.ex (.int .i64 y), .ex (.int .i64 m), .ex (.int .i64 d)])) := by
  have hx := civ_range hc
  have h0 := hx.1
  have h1 := hx.2
  have hb := civ_beg hc
  have b1 := hb.1
  have b2 := hb.2.1
  have b3 := hb.2.2
  have y1 := hc.y1
  have y2 := hc.y2
  have m1 := hc.m1
  have m2 := hc.m2
  have d1 := hc.d1
  have d2 := hc.d2
  have c1 := cum_up y (m.toNat - 1) (by omega)
  have g0 := beg_ge0 y1 (by omega)
  have hv : dayB x = true := dayB_yes h0 h1
  have hd := dayValid_con x
  rw [hv] at hd
  have e1 : x.tdiv 366 = x / 366 := tdiv_nn h0
  have s1 : 2000 + x / 366 ≤ y := by
    have := beg_le366 (y := y + 1) (by omega)
    omega
  have s0 : 0 ≤ x / 366 := by omega
  have hcu := Lib.hid (fun k (hk : k ≤ 12) => cum_up y k hk)
  have hcd := Lib.hid d1
  have hm1 := Lib.hid m1
  refine con_val base Tryz.func54 rfl rfl (by kernel_rfl) (Nat.le_of_ble_eq_true rfl) ?_
  rw [init_eq]
  clear hc hb hx
  (repeat' (first | exact trivial | refine stq ?_ | (refine awp_ret ?_; simp only [then_ret, block_ret, end_ret]) | ((first | refine cv (hd) ?_ | refine stp ?_ | refine nqif_ways (fun h => ?_) ?_ | ((first | refine gif_ways (fun h => ?_) (fun h => ?_) | refine cif_ways (fun h => ?_) (fun h => ?_)) <;> (try simp only [sxn] at h) <;> (try (exfalso; omega)))) <;> (try (refine wS ?_)))))
  refine vloop (fun n tm hp nx => ∃ Y : Int, n = (y - Y).toNat ∧ 2000 ≤ Y ∧ Y ≤ y ∧ tm 0 = .ex (.int .i64 x) ∧ tm 5 = .ex (.int .i64 Y)) _ ⟨2000 + x / 366, rfl, by omega, s1, by exact byS, by exact byS⟩ ?_
  rintro n tm hp nx ⟨Y, rfl, Y0, Y1, t0, t5⟩
  by_cases hY : Y < y
  · have q := Lib.hid (beg_le (y := Y + 1) (z := y) (by omega) (by omega) (by omega))
    have hB := begin_con (Y + 1) (by omega) (by omega)
    generalize beg (Y + 1) = B at q hB
    have q2 : B ≤ x := by have := q.out; omega
    clear q
    (repeat' (first | exact trivial | refine stq ?_ | (refine awp_ret ?_; simp only [then_ret, block_ret, end_ret]) | ((first | refine cv (hB) ?_ | refine stp ?_ | refine nqif_ways (fun h => ?_) ?_ | ((first | refine gif_ways (fun h => ?_) (fun h => ?_) | refine cif_ways (fun h => ?_) (fun h => ?_)) <;> (try simp only [sxn] at h) <;> (try (exfalso; omega)))) <;> (try (refine wS ?_)))))
    all_goals exact kround_i (y - (Y + 1)).toNat (by omega) ⟨Y + 1, rfl, by omega, by omega, by exact byS, by exact byS⟩
  · have hYy : Y = y := by omega
    subst hYy
    have hB := begin_con (Y + 1) (by omega) (by omega)
    have hB2 := begin_con Y (by omega) (by omega)
    generalize beg (Y + 1) = B at b2 hB
    generalize beg Y = B2 at *
    have q2 : ¬ (B ≤ x) := by omega
    have hz0 := Lib.hid (show x - B2 = x - B2 - cum Y 0 by have : cum Y 0 = 0 := rfl; omega)
    (repeat' (first | exact trivial | refine stq ?_ | (refine awp_ret ?_; simp only [then_ret, block_ret, end_ret]) | ((first | refine cv (hB) ?_ | refine cv (hB2) ?_ | refine stp ?_ | refine nqif_ways (fun h => ?_) ?_ | ((first | refine gif_ways (fun h => ?_) (fun h => ?_) | refine cif_ways (fun h => ?_) (fun h => ?_)) <;> (try simp only [sxn] at h) <;> (try (exfalso; omega)))) <;> (try (refine wS ?_)))))
    refine vloop (fun n tm hp nx => ∃ (k : Nat) (z : Int), n = m.toNat - k ∧ k + 1 ≤ m.toNat ∧ Hid (z = x - B2 - cum Y k) ∧ tm 0 = .ex (.int .i64 z) ∧ tm 5 = .ex (.int .i64 Y) ∧ tm 6 = .ex (.int .i64 (k + 1))) _ ⟨0, x - B2, rfl, by omega, hz0, by exact byS, by exact byS, by exact byS⟩ ?_
    rintro n tm hp nx ⟨k, z, rfl, hk, hz, t0, t5, t6⟩
    have hl := length_con Y ((k : Int) + 1) (by omega) (by omega) (by omega)
    have em : cum Y (k + 1) = cum Y k + mlen Y ((k : Int) + 1) := rfl
    have ml := mlen_ge Y ((k : Int) + 1)
    have v1 := hcu.out k (by omega)
    have z2 := hz.out
    by_cases hlt : k + 1 < m.toNat
    · have v2 := cum_le (y := Y) (a := k + 1) (b := m.toNat - 1) (by omega)
      generalize mlen Y ((k : Int) + 1) = L at hl em ml
      have q3 : L ≤ z := by have := hcd.out; omega
      have q4 : 0 ≤ z - L := by omega
      have q5 : z ≤ 80000 := by omega
      have hn := Lib.hid (show z - L = x - B2 - cum Y (k + 1) by omega)
      clear z2 em v2 v1 c1 b3 b1 b2 q2 hz hcu
      (repeat' (first | exact trivial | refine stq ?_ | (refine awp_ret ?_; simp only [then_ret, block_ret, end_ret]) | ((first | refine cv (hl) ?_ | refine stp ?_ | refine nqif_ways (fun h => ?_) ?_ | ((first | refine gif_ways (fun h => ?_) (fun h => ?_) | refine cif_ways (fun h => ?_) (fun h => ?_)) <;> (try simp only [sxn] at h) <;> (try (exfalso; omega)))) <;> (try (refine wS ?_)))))
      all_goals exact kround_i (m.toNat - (k + 1)) (by omega) ⟨k + 1, z - L, rfl, by omega, (by first | exact hn), by exact byS, by exact byS, by exact byS⟩
    · have hkm : (k : Int) + 1 = m := by omega
      have hk2 : m.toNat - 1 = k := by omega
      rw [hk2] at b3 c1
      rw [hkm] at hl ml t6
      have hz3 : z = d - 1 := by omega
      subst hz3
      generalize mlen Y m = L at *
      have q3 : ¬ (L ≤ d - 1) := by omega
      have q4 : d - 1 + 1 = d := by omega
      clear z2 em v1 c1 b3 b1 b2 q2 hz hcu
      (repeat' (first | exact trivial | refine stq ?_ | (refine awp_ret ?_; simp only [then_ret, block_ret, end_ret]) | ((first | refine cv (hl) ?_ | refine stp ?_ | refine nqif_ways (fun h => ?_) ?_ | ((first | refine gif_ways (fun h => ?_) (fun h => ?_) | refine cif_ways (fun h => ?_) (fun h => ?_)) <;> (try simp only [sxn] at h) <;> (try (exfalso; omega)))) <;> (try (refine wS ?_)))))
      all_goals simp only [sxd, z0, p0, Nat.reduceEqDiff, ↓reduceIte, Tryz.f54, *]
end Go.Proofs.YtcoflmckbcnlpaaGreatDoor
namespace Go.Proofs.YtcoflmckbcnlpaaGreatDoor
open Go.RowKit
set_option maxRecDepth 100000
set_option linter.unusedSimpArgs false
theorem Day_con {x y m d : Int} (hc : IsCiv x y m d) : Con Tryz.prog CtxP 94 [.ex (.int .i64 y), .ex (.int .i64 m), .ex (.int .i64 d)] (.val (.tup [.ex (.int .i64 x), .ex (.int .i64 0)])) := by
  have hx := civ_range hc
  have h0 := hx.1
  have h1 := hx.2
  have b3 := (civ_beg hc).2.2
  have y1 := hc.y1
  have y2 := hc.y2
  have m1 := hc.m1
  have m2 := hc.m2
  have d1 := hc.d1
  have d2 := hc.d2
  have g0 := beg_ge0 y1 (by omega)
  have hB := begin_con y (by omega) (by omega)
  have hl0 := length_con y m (by omega) (by omega) (by omega)
  have hcu := Lib.hid (fun k (hk : k ≤ 12) => cum_up y k hk)
  have hml := Lib.hid (fun k => mlen_ge y k)
  have q0 : ¬ (mlen y m < d) := by omega
  have q1 : d ≤ 31 := by have := hml.out m; omega
  generalize hL : mlen y m = L at hl0 q0
  have hb := Lib.hid b3
  clear hc hx d2 hL b3
  refine con_val base Tryz.func94 rfl rfl (by kernel_rfl) (Nat.le_of_ble_eq_true rfl) ?_
  rw [init_eq]
  (repeat' (first | exact trivial | refine stq ?_ | (refine awp_ret ?_; simp only [then_ret, block_ret, end_ret]) | ((first | refine cv (hB) ?_ | refine cv (hl0) ?_ | refine stp ?_ | refine nqif_ways (fun h => ?_) ?_ | ((first | refine gif_ways (fun h => ?_) (fun h => ?_) | refine cif_ways (fun h => ?_) (fun h => ?_)) <;> (try simp only [sxn] at h) <;> (try (exfalso; omega)))) <;> (try (refine wS ?_)))))
  refine vloop (fun n tm hp nx => ∃ (k : Nat) (z : Int), n = m.toNat - k ∧ k + 1 ≤ m.toNat ∧ Hid (z = beg y + d - 1 + cum y k) ∧ tm 0 = .ex (.int .i64 y) ∧ tm 1 = .ex (.int .i64 m) ∧ tm 8 = .ex (.int .i64 z) ∧ tm 9 = .ex (.int .i64 (k + 1))) _ ⟨0, beg y + d - 1, rfl, by omega, Lib.hid (by have : cum y 0 = 0 := rfl; omega), by exact byS, by exact byS, by exact byS, by exact byS⟩ ?_
  rintro n tm hp nx ⟨k, z, rfl, hk, hz, t0, t1, t8, t9⟩
  by_cases hlt : k + 1 < m.toNat
  · have hl := length_con y ((k : Int) + 1) (by omega) (by omega) (by omega)
    have em : cum y (k + 1) = cum y k + mlen y ((k : Int) + 1) := rfl
    have ml := hml.out ((k : Int) + 1)
    generalize mlen y ((k : Int) + 1) = L2 at hl em ml
    have v1 := hcu.out k (by omega)
    have z2 := hz.out
    have q2 : (k : Int) + 1 < m := by omega
    have q3 : 0 ≤ z ∧ z ≤ 80000 := by omega
    have q4 := q3.1
    have q5 := q3.2
    have hn := Lib.hid (show z + L2 = beg y + d - 1 + cum y (k + 1) by omega)
    clear z2 em v1 hz hcu hml q3
    (repeat' (first | exact trivial | refine stq ?_ | (refine awp_ret ?_; simp only [then_ret, block_ret, end_ret]) | ((first | refine cv (hl) ?_ | refine stp ?_ | refine nqif_ways (fun h => ?_) ?_ | ((first | refine gif_ways (fun h => ?_) (fun h => ?_) | refine cif_ways (fun h => ?_) (fun h => ?_)) <;> (try simp only [sxn] at h) <;> (try (exfalso; omega)))) <;> (try (refine wS ?_)))))
    all_goals exact kround_i (m.toNat - (k + 1)) (by omega) ⟨k + 1, z + L2, rfl, by omega, hn, by exact byS, by exact byS, by exact byS, by exact byS⟩
  · have q2 : ¬ ((k : Int) + 1 < m) := by omega
    have hkk : m.toNat - 1 = k := by omega
    have hr : z = x := by have a := hz.out; have b := hb.out; rw [hkk] at b; omega
    subst hr
    clear hz hb hcu hml
    (repeat' (first | exact trivial | refine stq ?_ | (refine awp_ret ?_; simp only [then_ret, block_ret, end_ret]) | ((first | refine stp ?_ | refine nqif_ways (fun h => ?_) ?_ | ((first | refine gif_ways (fun h => ?_) (fun h => ?_) | refine cif_ways (fun h => ?_) (fun h => ?_)) <;> (try simp only [sxn] at h) <;> (try (exfalso; omega)))) <;> (try (refine wS ?_)))))
    all_goals simp only [sxd, z0, p0, Nat.reduceEqDiff, ↓reduceIte, Tryz.f94, *]
theorem Weekday_con (x : Int) (h0 : 0 ≤ x) (h1 : x ≤ 73048) : Con Tryz.prog CtxP 181 [.ex (.int .i64 x)] (.val (.ex (.int .i64 ((x + 5) % 7)))) := by
  have hv : dayB x = true := dayB_yes h0 h1
  have hd := dayValid_con x
  rw [hv] at hd
  have e1 : (x + 5).tmod 7 = (x + 5) % 7 := tmod_nn (by omega)
  refine con_val base Tryz.func181 rfl rfl (by kernel_rfl) (Nat.le_of_ble_eq_true rfl) ?_
  rw [init_eq]
  (repeat' (first | exact trivial | refine stq ?_ | (refine awp_ret ?_; simp only [then_ret, block_ret, end_ret]) | ((first | refine cv (hd) ?_ | refine stp ?_ | refine nqif_ways (fun h => ?_) ?_ | ((first | refine gif_ways (fun h => ?_) (fun h => ?_) | refine cif_ways (fun h => ?_) (fun h => ?_)) <;> (try simp only [sxn] at h) <;> (try (exfalso; omega)))) <;> (try (refine wS ?_)))))
  all_goals simp only [sxd, z0, p0, Nat.reduceEqDiff, ↓reduceIte, Tryz.f181, *]
theorem MonthEnd_con {x y m d : Int} (hc : IsCiv x y m d) : Con Tryz.prog CtxP 97 [.ex (.int .i64 x)] (.val (.ex (.int .i64 (endX (12 * y + m - 1))))) := by
  have hx := civ_range hc
  have h0 := hx.1
  have h1 := hx.2
  have y1 := hc.y1
  have m1 := hc.m1
  have m2 := hc.m2
  have d1 := hc.d1
  have d2 := hc.d2
  have hr : endX (12 * y + m - 1) = x - d + mlen y m := by
    unfold endX
    rw [show (12 * y + m - 1) / 12 = y by omega, show (12 * y + m - 1) % 12 = m - 1 by omega, show m - 1 + 1 = m by omega, show (m - 1).toNat = m.toNat - 1 by omega]
    have := hc.e; omega
  rw [hr]
  have hd := dayValid_con x
  rw [dayB_yes h0 h1] at hd
  have hC := Civil_con hc
  have hl := length_con y m (by omega) (by omega) (by omega)
  have ml := mlen_ge y m
  generalize mlen y m = L at *
  clear hc hx hr
  refine con_val base Tryz.func97 rfl rfl (by kernel_rfl) (Nat.le_of_ble_eq_true rfl) ?_
  rw [init_eq]
  (repeat' (first | exact trivial | refine stq ?_ | (refine awp_ret ?_; simp only [then_ret, block_ret, end_ret]) | ((first | refine cv (hd) ?_ | refine cv (hC) ?_ | refine cv (hl) ?_ | refine stp ?_ | refine nqif_ways (fun h => ?_) ?_ | ((first | refine gif_ways (fun h => ?_) (fun h => ?_) | refine cif_ways (fun h => ?_) (fun h => ?_)) <;> (try simp only [sxn] at h) <;> (try (exfalso; omega)))) <;> (try (refine wS ?_)))))
  all_goals simp only [sxd, z0, p0, Nat.reduceEqDiff, ↓reduceIte, Tryz.f97, *]
def addR (M a : Int) : AV := if 24000 ≤ M ∧ M < 26400 then .tup [.ex (.int .i64 (addX M a)), .ex (.int .i64 0)] else .tup [.ex (.int .i64 0), .ex (.int .i64 1)]
theorem AddMonths_con {x y m d n a : Int} (hc : IsCiv x y m d) (n0 : 1 ≤ n) (n1 : n ≤ 2400) (a0 : 1 ≤ a) (a1 : a ≤ 31) : Con Tryz.prog CtxP 55 [.ex (.int .i64 x), .ex (.int .i64 n), .ex (.int .i64 a)] (.val (addR (12 * y + m - 1 + n) a)) := by
  have hx := civ_range hc
  have h0 := hx.1
  have h1 := hx.2
  have y1 := hc.y1
  have y2 := hc.y2
  have m1 := hc.m1
  have m2 := hc.m2
  have hd := dayValid_con x
  rw [dayB_yes h0 h1] at hd
  have hC := Civil_con hc
  have q1 : 24000 ≤ 12 * y + m - 1 + n := by omega
  by_cases hM : 12 * y + m - 1 + n < 26400
  · have hr : addR (12 * y + m - 1 + n) a = .tup [.ex (.int .i64 (addX (12 * y + m - 1 + n) a)), .ex (.int .i64 0)] := by unfold addR; rw [if_pos ⟨q1, hM⟩]
    rw [hr]
    have c2 := addX_civ (M := 12 * y + m - 1 + n) (a := a) q1 hM a0
    have hD := Day_con c2
    have hmin : min a (mlen ((12 * y + m - 1 + n) / 12) ((12 * y + m - 1 + n) % 12 + 1)) = (if mlen ((12 * y + m - 1 + n) / 12) ((12 * y + m - 1 + n) % 12 + 1) < a then mlen ((12 * y + m - 1 + n) / 12) ((12 * y + m - 1 + n) % 12 + 1) else a) := by split <;> omega
    rw [hmin] at hD
    have hl := length_con ((12 * y + m - 1 + n) / 12) ((12 * y + m - 1 + n) % 12 + 1) (by omega) (by omega) (by omega)
    have e1 : (12 * y + m - 1 + n).tmod 12 = (12 * y + m - 1 + n) % 12 := tmod_nn (by omega)
    have e2 : (12 * y + m - 1 + n).tdiv 12 = (12 * y + m - 1 + n) / 12 := tdiv_nn (by omega)
    have r1 : 0 ≤ (12 * y + m - 1 + n) % 12 ∧ (12 * y + m - 1 + n) % 12 < 12 := by omega
    have r2 : 0 ≤ (12 * y + m - 1 + n) / 12 ∧ (12 * y + m - 1 + n) / 12 < 2300 := by omega
    have r3 := r1.1
    have r4 := r1.2
    have r5 := r2.1
    have r6 := r2.2
    clear hc hx hr r1 r2
    (refine con_val base Tryz.func55 rfl rfl (by kernel_rfl) (Nat.le_of_ble_eq_true rfl) ?_; rw [init_eq])
    (repeat' (first | exact trivial | refine stq ?_ | (refine awp_ret ?_; simp only [then_ret, block_ret, end_ret]) | ((first | refine cv (hd) ?_ | refine cv (hC) ?_ | refine cv (hl) ?_ | refine cv (hD) ?_ | refine stp ?_ | refine nqif_ways (fun h => ?_) ?_ | ((first | refine gif_ways (fun h => ?_) (fun h => ?_) | refine cif_ways (fun h => ?_) (fun h => ?_)) <;> (try simp only [sxn] at h) <;> (try (exfalso; omega)))) <;> (try (refine wS ?_)))))
    all_goals simp only [sxd, z0, p0, Nat.reduceEqDiff, ↓reduceIte, Tryz.f55, *]
  · have hr : addR (12 * y + m - 1 + n) a = .tup [.ex (.int .i64 0), .ex (.int .i64 1)] := by unfold addR; rw [if_neg (by omega)]
    rw [hr]
    clear hc hx hr
    (refine con_val base Tryz.func55 rfl rfl (by kernel_rfl) (Nat.le_of_ble_eq_true rfl) ?_; rw [init_eq])
    (repeat' (first | exact trivial | refine stq ?_ | (refine awp_ret ?_; simp only [then_ret, block_ret, end_ret]) | ((first | refine cv (hd) ?_ | refine cv (hC) ?_ | refine stp ?_ | refine nqif_ways (fun h => ?_) ?_ | ((first | refine gif_ways (fun h => ?_) (fun h => ?_) | refine cif_ways (fun h => ?_) (fun h => ?_)) <;> (try simp only [sxn] at h) <;> (try (exfalso; omega)))) <;> (try (refine wS ?_)))))
    all_goals simp only [sxd, z0, p0, Nat.reduceEqDiff, ↓reduceIte, Tryz.f55, *]
end Go.Proofs.YtcoflmckbcnlpaaGreatDoor