/-
  Numbers of 128 bits that are small and not negative, walked. Conditions: those that each theorem states. More of the kind.
-/
import Derived.Test.YtcoflmckbcnlpaaGreatDoorLC
import Derived.Test.YtcoflmckbcnlpaaGreatDoorGT
import Derived.Laws.Externs
import Derived.Test.YtcoflmckbcnlpaaGreatDoorMul
import Derived.Test.YtcoflmckbcnlpaaGreatDoorGEng2
import Derived.Test.YtcoflmckbcnlpaaGreatDoorAny
namespace Go.Proofs.YtcoflmckbcnlpaaGreatDoor
open Go.RowKit
set_option maxRecDepth 100000
set_option linter.unusedSimpArgs false
theorem add64_ext (x y : Int) (hx : 0 ≤ x) (hy : 0 ≤ y) (h : x + y < 18446744073709551616) : ExtOk Tryz.prog 135 [.int .u64 x, .int .u64 y, .int .u64 0] [.int .u64 (x + y), .int .u64 0] := by
  intro w
  have h1 := run_callFunc_extern (P := Tryz.prog) (f := 135) (fn := Tryz.f135) (e := add64Entry) Tryz.func135 (by kernel_rfl) rfl (by kernel_rfl) (by kernel_rfl) #[.int .u64 x, .int .u64 y, .int .u64 0] w
  have h2 := run_add64 (P := Tryz.prog) x y 0 hx hy (by decide) (by decide) w
  rw [h2] at h1
  rw [show (x + y + 0) % 18446744073709551616 = x + y by omega, show (x + y + 0) / 18446744073709551616 = 0 by omega] at h1
  exact h1
theorem fdiv63 {n : Int} (h0 : 0 ≤ n) (h1 : n ≤ 9223372036854775807) : n.fdiv (2 ^ min 63 IntKind.i64.bits) = 0 := by
  have e : (2 : Int) ^ min 63 IntKind.i64.bits = 9223372036854775808 := by decide
  rw [e, Int.fdiv_eq_ediv_of_nonneg _ (by decide)]
  omega
theorem Of_con (n : Int) (h0 : 0 ≤ n) (h1 : n ≤ 9223372036854775807) : Con Tryz.prog CtxP 147 [.ex (.int .i64 n)] (.val (.agg [.ex (.int .i64 0), .ex (.int .u64 n)])) := by
  have hr := fdiv63 h0 h1
  refine con_val base Tryz.func147 rfl rfl (by kernel_rfl) (Nat.le_of_ble_eq_true rfl) ?_
  rw [init_eq]
  (repeat' (first | exact trivial | refine stq ?_ | (refine awp_ret ?_; simp only [then_ret, block_ret, end_ret]) | ((first | refine stp ?_ | refine nqif_ways (fun h => ?_) ?_ | ((first | refine gif_ways (fun h => ?_) (fun h => ?_) | refine cif_ways (fun h => ?_) (fun h => ?_)) <;> (try simp only [sxn] at h) <;> (try (exfalso; omega)))) <;> (try (simp (disch := omega) only [List.map_cons, List.map_nil, sx, Value.oneCell', ↓reduceIte, Nat.reduceAdd, Nat.reduceMul, Nat.reduceEqDiff, Nat.reduceLT, Nat.reduceLeDiff, Int.reduceToNat, Int.reduceEq, Int.reduceLT, Int.reduceLE, Int.reduceNe, *])))))
  all_goals (refine rc1 rfl ?_)
  all_goals simp only [sxd, z0, p0, Nat.reduceEqDiff, ↓reduceIte, *]
theorem wide_eqAt (a b a' b' : Int) : eqAt Tryz.prog 10 103 [.ex (.int .i64 a), .ex (.int .u64 b)] [.ex (.int .i64 a'), .ex (.int .u64 b')] = some (decide (a = a') && (decide (b = b') && true)) := by kernel_rfl
theorem wide_eq (a b : Int) : AggEq Tryz.prog 103 [.ex (.int .i64 a), .ex (.int .u64 b)] [.ex (.int .i64 a), .ex (.int .u64 b)] true :=
  aggEq_of (d := 10) (by decide) Tryz.underlying103 (by kernel_rfl) (by rw [wide_eqAt]; simp)
theorem Int_con (n : Int) (h0 : 0 ≤ n) (h1 : n ≤ 9223372036854775807) : Con Tryz.prog CtxP 149 [.agg [.ex (.int .i64 0), .ex (.int .u64 n)]] (.val (.tup [.ex (.int .i64 n), .ex (.bool true)])) := by
  have a1 := Of_con n h0 h1
  refine con_val base Tryz.func149 rfl rfl (by kernel_rfl) (Nat.le_of_ble_eq_true rfl) ?_
  rw [init_eq]
  (repeat' (first | exact trivial | refine stq ?_ | (refine awp_ret ?_; simp only [then_ret, block_ret, end_ret]) | ((first | refine cv (a1) ?_ | refine aeq_i (wide_eq 0 n) ?_ | refine stp ?_ | refine nqif_ways (fun h => ?_) ?_ | ((first | refine gif_ways (fun h => ?_) (fun h => ?_) | refine cif_ways (fun h => ?_) (fun h => ?_)) <;> (try simp only [sxn] at h) <;> (try (exfalso; omega)))) <;> (try (simp (disch := omega) only [List.map_cons, List.map_nil, sx, Value.oneCell', ↓reduceIte, Nat.reduceAdd, Nat.reduceMul, Nat.reduceEqDiff, Nat.reduceLT, Nat.reduceLeDiff, Int.reduceToNat, Int.reduceEq, Int.reduceLT, Int.reduceLE, Int.reduceNe, *])))))
  all_goals simp only [sxd, z0, p0, Nat.reduceEqDiff, ↓reduceIte, Tryz.f149, *]
theorem WAdd_con (x y : Int) (h0 : 0 ≤ x) (h1 : 0 ≤ y) (h2 : x + y ≤ 9223372036854775807) : Con Tryz.prog CtxP 88 [.agg [.ex (.int .i64 0), .ex (.int .u64 x)], .agg [.ex (.int .i64 0), .ex (.int .u64 y)]] (.val (.tup [.agg [.ex (.int .i64 0), .ex (.int .u64 (x + y))], .ex (.int .i64 0)])) := by
  have a1 := add64_ext x y h0 h1 (by omega)
  refine con_val base Tryz.func88 rfl rfl (by kernel_rfl) (Nat.le_of_ble_eq_true rfl) ?_
  rw [init_eq]
  (repeat' (first | exact trivial | refine stq ?_ | (refine awp_ret ?_; simp only [then_ret, block_ret, end_ret]) | ((first | refine call_ext (by first | rfl | (simp only [List.map_cons, List.map_nil, *]; done)) (a1) (by intro r hr; simp only [List.mem_cons, List.not_mem_nil, or_false] at hr; rcases hr with rfl | rfl <;> rfl) ?_ | refine stp ?_ | refine nqif_ways (fun h => ?_) ?_ | ((first | refine gif_ways (fun h => ?_) (fun h => ?_) | refine cif_ways (fun h => ?_) (fun h => ?_)) <;> (try simp only [sxn] at h) <;> (try (exfalso; omega)))) <;> (try (simp (disch := omega) only [List.map_cons, List.map_nil, sx, Value.oneCell', ↓reduceIte, Nat.reduceAdd, Nat.reduceMul, Nat.reduceEqDiff, Nat.reduceLT, Nat.reduceLeDiff, Int.reduceToNat, Int.reduceEq, Int.reduceLT, Int.reduceLE, Int.reduceNe, *])))))
  all_goals (refine rc3 rfl ?_)
  all_goals (first | rfl | (exfalso; exact absurd h (by decide)))
theorem Div64_con (x y : Int) (h0 : 0 ≤ x) (h1 : x ≤ 18446744073709551615) (h2 : 0 < y) (h3 : y ≤ 18446744073709551615) : Con Tryz.prog CtxP 208 [.ex (.int .u64 0), .ex (.int .u64 x), .ex (.int .u64 y)] (.val (.tup [.ex (.int .u64 (x / y)), .ex (.int .u64 (x % y))])) := by
  have e1 : x.tdiv y = x / y := tdiv_nn h0
  have e2 : x.tmod y = x % y := tmod_nn h0
  have b1 : 0 ≤ x / y := Int.ediv_nonneg h0 (by omega)
  have b2 : x / y ≤ x := Int.ediv_le_self _ h0
  have e3 : IntKind.u64.wrap (x / y) = x / y := by rw [IntKind.wrap_u64]; omega
  have hy : ¬ y = 0 := by omega
  have hy2 : ¬ y ≤ 0 := by omega
  have hy3 : decide (y = 0) = false := decide_eq_false hy
  refine con_val base Tryz.func208 rfl rfl (by kernel_rfl) (Nat.le_of_ble_eq_true rfl) ?_
  rw [init_eq]
  (repeat' (first | exact trivial | refine stq ?_ | (refine awp_ret ?_; simp only [then_ret, block_ret, end_ret]) | ((first | refine stp ?_ | refine nqif_ways (fun h => ?_) ?_ | ((first | refine gif_ways (fun h => ?_) (fun h => ?_) | refine cif_ways (fun h => ?_) (fun h => ?_)) <;> (try simp only [sxn] at h) <;> (try (exfalso; omega)))) <;> (try (simp (disch := omega) only [List.map_cons, List.map_nil, sx, Value.oneCell', ↓reduceIte, Nat.reduceAdd, Nat.reduceMul, Nat.reduceEqDiff, Nat.reduceLT, Nat.reduceLeDiff, Int.reduceToNat, Int.reduceEq, Int.reduceLT, Int.reduceLE, Int.reduceNe, *])))))
  all_goals simp only [sxd, z0, p0, Nat.reduceEqDiff, ↓reduceIte, Tryz.f208, *]
theorem absolute_con (x : Int) (h0 : 0 ≤ x) (h1 : x ≤ 18446744073709551615) : Con Tryz.prog CtxP 127 [.agg [.ex (.int .i64 0), .ex (.int .u64 x)]] (.val (.agg [.ex (.int .u64 0), .ex (.int .u64 x)])) := by
  refine con_val base Tryz.func127 rfl rfl (by kernel_rfl) (Nat.le_of_ble_eq_true rfl) ?_
  rw [init_eq]
  (repeat' (first | exact trivial | refine stq ?_ | (refine awp_ret ?_; simp only [then_ret, block_ret, end_ret]) | ((first | refine stp ?_ | refine nqif_ways (fun h => ?_) ?_ | ((first | refine gif_ways (fun h => ?_) (fun h => ?_) | refine cif_ways (fun h => ?_) (fun h => ?_)) <;> (try simp only [sxn] at h) <;> (try (exfalso; omega)))) <;> (try (simp (disch := omega) only [List.map_cons, List.map_nil, sx, Value.oneCell', ↓reduceIte, Nat.reduceAdd, Nat.reduceMul, Nat.reduceEqDiff, Nat.reduceLT, Nat.reduceLeDiff, Int.reduceToNat, Int.reduceEq, Int.reduceLT, Int.reduceLE, Int.reduceNe, *])))))
  all_goals (refine rc1 rfl ?_)
  all_goals rfl
theorem divide_con (x y : Int) (h0 : 0 ≤ x) (h1 : x ≤ 18446744073709551615) (h2 : 0 < y) (h3 : y ≤ 18446744073709551615) : Con Tryz.prog CtxP 182 [.agg [.ex (.int .u64 0), .ex (.int .u64 x)], .ex (.int .u64 y)] (.val (.tup [.agg [.ex (.int .u64 0), .ex (.int .u64 (x / y))], .ex (.int .u64 (x % y))])) := by
  have a1 := Div64_con x y h0 h1 h2 h3
  have e1 : (0 : Int).tmod y = 0 := Int.zero_tmod y
  have e2 : (0 : Int).tdiv y = 0 := Int.zero_tdiv y
  have hy : ¬ y = 0 := by omega
  refine con_val base Tryz.func182 rfl rfl (by kernel_rfl) (Nat.le_of_ble_eq_true rfl) ?_
  rw [init_eq]
  (repeat' (first | exact trivial | refine stq ?_ | (refine awp_ret ?_; simp only [then_ret, block_ret, end_ret]) | ((first | refine cv (a1) ?_ | refine stp ?_ | refine nqif_ways (fun h => ?_) ?_ | ((first | refine gif_ways (fun h => ?_) (fun h => ?_) | refine cif_ways (fun h => ?_) (fun h => ?_)) <;> (try simp only [sxn] at h) <;> (try (exfalso; omega)))) <;> (try (simp (disch := omega) only [List.map_cons, List.map_nil, sx, Value.oneCell', ↓reduceIte, Nat.reduceAdd, Nat.reduceMul, Nat.reduceEqDiff, Nat.reduceLT, Nat.reduceLeDiff, Int.reduceToNat, Int.reduceEq, Int.reduceLT, Int.reduceLE, Int.reduceNe, *])))))
  all_goals (refine rc3 rfl ?_)
  all_goals rfl
theorem signed_con (x : Int) (h0 : 0 ≤ x) (h1 : x ≤ 18446744073709551615) : Con Tryz.prog CtxP 130 [.agg [.ex (.int .u64 0), .ex (.int .u64 x)], .ex (.bool false)] (.val (.tup [.agg [.ex (.int .i64 0), .ex (.int .u64 x)], .ex (.int .i64 0)])) := by
  refine con_val base Tryz.func130 rfl rfl (by kernel_rfl) (Nat.le_of_ble_eq_true rfl) ?_
  rw [init_eq]
  (repeat' (first | exact trivial | refine stq ?_ | (refine awp_ret ?_; simp only [then_ret, block_ret, end_ret]) | ((first | refine stp ?_ | refine nqif_ways (fun h => ?_) ?_ | ((first | refine gif_ways (fun h => ?_) (fun h => ?_) | refine cif_ways (fun h => ?_) (fun h => ?_)) <;> (try simp only [sxn] at h) <;> (try (exfalso; omega)))) <;> (try (simp (disch := omega) only [List.map_cons, List.map_nil, sx, Value.oneCell', ↓reduceIte, Nat.reduceAdd, Nat.reduceMul, Nat.reduceEqDiff, Nat.reduceLT, Nat.reduceLeDiff, Int.reduceToNat, Int.reduceEq, Int.reduceLT, Int.reduceLE, Int.reduceNe, *])))))
  all_goals (refine rc3 rfl ?_)
  all_goals rfl
theorem WDiv_con (x y : Int) (h0 : 0 ≤ x) (h1 : x ≤ 18446744073709551615) (h2 : 0 < y) (h3 : y ≤ 9223372036854775807) : Con Tryz.prog CtxP 146 [.agg [.ex (.int .i64 0), .ex (.int .u64 x)], .ex (.int .i64 y)] (.val (.tup [.agg [.ex (.int .i64 0), .ex (.int .u64 (x / y))], .ex (.int .i64 (x % y)), .ex (.int .i64 0)])) := by
  have a1 := absolute_con x h0 (by omega)
  have a2 := divide_con x y h0 (by omega) h2 (by omega)
  have b1 : 0 ≤ x / y := Int.ediv_nonneg h0 (by omega)
  have b2 : x / y ≤ x := Int.ediv_le_self _ h0
  have b3 : 0 ≤ x % y := Int.emod_nonneg _ (by omega)
  have b4 : x % y < y := Int.emod_lt_of_pos _ h2
  have a3 := signed_con (x / y) b1 (by omega)
  have hy : ¬ y < 1 := by omega
  refine con_val base Tryz.func146 rfl rfl (by kernel_rfl) (Nat.le_of_ble_eq_true rfl) ?_
  rw [init_eq]
  (repeat' (first | exact trivial | refine stq ?_ | (refine awp_ret ?_; simp only [then_ret, block_ret, end_ret]) | ((first | refine cv (a1) ?_ | refine cv (a2) ?_ | refine cv (a3) ?_ | refine stp ?_ | refine nqif_ways (fun h => ?_) ?_ | ((first | refine gif_ways (fun h => ?_) (fun h => ?_) | refine cif_ways (fun h => ?_) (fun h => ?_)) <;> (try simp only [sxn] at h) <;> (try (exfalso; omega)))) <;> (try (simp (disch := omega) only [List.map_cons, List.map_nil, sx, Value.oneCell', ↓reduceIte, Nat.reduceAdd, Nat.reduceMul, Nat.reduceEqDiff, Nat.reduceLT, Nat.reduceLeDiff, Int.reduceToNat, Int.reduceEq, Int.reduceLT, Int.reduceLE, Int.reduceNe, *])))))
  all_goals (refine rc4 rfl ?_)
  all_goals rfl
end Go.Proofs.YtcoflmckbcnlpaaGreatDoor
namespace Go.Proofs.YtcoflmckbcnlpaaGreatDoor
open Go.RowKit
set_option maxRecDepth 100000
set_option linter.unusedSimpArgs false
def nilO : XO := fun _ _ _ _ => none
theorem nilO_ok {C : World → Prop} : OrcOk Tryz.prog C nilO := by
  intro f hp args id r ef h
  cases h
noncomputable def engE : XE := ⟨Tryz.prog, glbE, nilO, fun _ => false⟩
theorem more1_con (x r n : Int) : Con Tryz.prog CtxP 148 [.agg [.ex (.int .i64 0), .ex (.int .u64 x)], .ex (.int .i64 r), .ex (.int .i64 n), .ex (.int .i64 1)] (.val (.ex (.int .i64 0))) :=
  xcall_con (E := engE) (n := 50) base glbE_ok nilO_ok (by kernel_rfl)
theorem more2_con (x r n : Int) : Con Tryz.prog CtxP 148 [.agg [.ex (.int .i64 0), .ex (.int .u64 x)], .ex (.int .i64 r), .ex (.int .i64 n), .ex (.int .i64 2)] (.val (.ex (.int .i64 1))) :=
  xcall_con (E := engE) (n := 50) base glbE_ok nilO_ok (by kernel_rfl)
theorem more3_con (x r n : Int) : Con Tryz.prog CtxP 148 [.agg [.ex (.int .i64 0), .ex (.int .u64 x)], .ex (.int .i64 r), .ex (.int .i64 n), .ex (.int .i64 3)] (.val (.ex (.int .i64 0))) :=
  xcall_con (E := engE) (n := 50) base glbE_ok nilO_ok (by kernel_rfl)
theorem more4_con (x r n : Int) : Con Tryz.prog CtxP 148 [.agg [.ex (.int .i64 0), .ex (.int .u64 x)], .ex (.int .i64 r), .ex (.int .i64 n), .ex (.int .i64 4)] (.val (.ex (.int .i64 1))) :=
  xcall_con (E := engE) (n := 50) base glbE_ok nilO_ok (by kernel_rfl)
theorem and_one {x : Int} (h0 : 0 ≤ x) (h1 : x ≤ 9223372036854775807) : IntKind.u64.wrap ((BitVec.ofInt IntKind.u64.bits x &&& BitVec.ofInt IntKind.u64.bits 1).toNat : Int) = x % 2 := by
  obtain ⟨n, rfl⟩ := Int.eq_ofNat_of_zero_le h0
  have e : (BitVec.ofInt IntKind.u64.bits (n : Int) &&& BitVec.ofInt IntKind.u64.bits 1).toNat = n % 2 := by
    show (BitVec.ofInt 64 (n : Int) &&& BitVec.ofInt 64 1).toNat = n % 2
    rw [BitVec.toNat_and]
    have a : (BitVec.ofInt 64 (n : Int)).toNat = n := by
      rw [BitVec.toNat_ofInt]; omega
    have b : (BitVec.ofInt 64 1).toNat = 1 := by decide
    rw [a, b, Nat.and_one_is_mod]
  rw [e, IntKind.wrap_u64]
  omega
theorem more_con (x r n mode : Int) (h0 : 0 ≤ x) (h1 : x ≤ 9223372036854775807) (r0 : 0 ≤ r) (rn : r < n) (n1 : n ≤ 9223372036854775807) (m1 : 1 ≤ mode) (m2 : mode ≤ 6) : Con Tryz.prog CtxP 148 [.agg [.ex (.int .i64 0), .ex (.int .u64 x)], .ex (.int .i64 r), .ex (.int .i64 n), .ex (.int .i64 mode)] (.val (.ex (.int .i64 (moreN x r n mode)))) := by
  have hm : mode = 1 ∨ mode = 2 ∨ mode = 3 ∨ mode = 4 ∨ mode = 5 ∨ mode = 6 := by omega
  rcases hm with rfl | rfl | rfl | rfl | rfl | rfl
  · exact more1_con x r n
  · exact more2_con x r n
  · exact more3_con x r n
  · exact more4_con x r n
  · have hr : moreN x r n 5 = if n - r < r then 1 else if r < n - r then 0 else 1 := rfl
    generalize moreN x r n 5 = R at *
    (refine con_val base Tryz.func148 rfl rfl (by kernel_rfl) (Nat.le_of_ble_eq_true rfl) ?_; rw [init_eq])
    (repeat' (first | exact trivial | refine stq ?_ | (refine awp_ret ?_; simp only [then_ret, block_ret, end_ret]) | ((first | refine stp ?_ | refine nqif_ways (fun h => ?_) ?_ | ((first | refine gif_ways (fun h => ?_) (fun h => ?_) | refine cif_ways (fun h => ?_) (fun h => ?_)) <;> (try simp only [sxn] at h) <;> (try (exfalso; omega)))) <;> (try (refine wS ?_)))))
    all_goals (try simp only [sxd, z0, p0, Nat.reduceEqDiff, ↓reduceIte, Tryz.f148])
    all_goals (subst hr; simp_all)
  · have hr : moreN x r n 6 = if n - r < r then 1 else if r < n - r then 0 else x % 2 := rfl
    have hand := and_one h0 h1
    have q1 : 0 ≤ x % 2 ∧ x % 2 < 2 := by omega
    have q2 := q1.1
    have q3 := q1.2
    generalize moreN x r n 6 = R at *
    (refine con_val base Tryz.func148 rfl rfl (by kernel_rfl) (Nat.le_of_ble_eq_true rfl) ?_; rw [init_eq])
    (repeat' (first | exact trivial | refine stq ?_ | (refine awp_ret ?_; simp only [then_ret, block_ret, end_ret]) | ((first | refine stp ?_ | refine nqif_ways (fun h => ?_) ?_ | ((first | refine gif_ways (fun h => ?_) (fun h => ?_) | refine cif_ways (fun h => ?_) (fun h => ?_)) <;> (try simp only [sxn] at h) <;> (try (exfalso; omega)))) <;> (try (refine wS ?_)))))
    all_goals (try simp only [sxd, z0, p0, Nat.reduceEqDiff, ↓reduceIte, Tryz.f148])
    all_goals (subst hr; simp_all)
end Go.Proofs.YtcoflmckbcnlpaaGreatDoor
namespace Go.Proofs.YtcoflmckbcnlpaaGreatDoor
open Go.RowKit
set_option maxRecDepth 100000
set_option linter.unusedSimpArgs false
def DivOk : Prop := ∀ x n mode : Int, 0 ≤ x → x ≤ 18446744073709551615 → x / n < 9223372036854775807 → 2 ≤ n → n ≤ 9223372036854775807 → 1 ≤ mode → mode ≤ 6 →
  Con Tryz.prog CtxP 98 [.agg [.ex (.int .i64 0), .ex (.int .u64 x)], .ex (.int .i64 n), .ex (.int .i64 mode)] (.val (.tup [.ex (.int .i64 (rdiv x n mode)), .ex (.int .i64 0)]))
theorem abs_con (x : Int) (h0 : 0 ≤ x) (h1 : x ≤ 9223372036854775807) : Con Tryz.prog CtxP 129 [.ex (.int .i64 x)] (.val (.ex (.int .u64 x))) := by
  refine con_val base Tryz.func129 rfl rfl (by kernel_rfl) (Nat.le_of_ble_eq_true rfl) ?_
  rw [init_eq]
  (repeat' (first | exact trivial | refine stq ?_ | (refine awp_ret ?_; simp only [then_ret, block_ret, end_ret]) | ((first | refine stp ?_ | refine nqif_ways (fun h => ?_) ?_ | ((first | refine gif_ways (fun h => ?_) (fun h => ?_) | refine cif_ways (fun h => ?_) (fun h => ?_)) <;> (try simp only [sxn] at h) <;> (try (exfalso; omega)))) <;> (try (refine wS ?_)))))
  all_goals simp only [sxd, z0, p0, Nat.reduceEqDiff, ↓reduceIte, Tryz.f129, *]
theorem Mul64_con (x y : Int) (h0 : 0 ≤ x) (h1 : 0 ≤ y) (h2 : x * y ≤ 18446744073709551615) (h3 : x ≤ 9223372036854775807) (h4 : y ≤ 9223372036854775807) : Con Tryz.prog CtxP 131 [.ex (.int .u64 x), .ex (.int .u64 y)] (.val (.tup [.ex (.int .u64 0), .ex (.int .u64 (x * y))])) := by
  obtain ⟨a, rfl⟩ := Int.eq_ofNat_of_zero_le h0
  obtain ⟨b, rfl⟩ := Int.eq_ofNat_of_zero_le h1
  have h5 : a * b ≤ 18446744073709551615 := by
    have : ((a * b : Nat) : Int) ≤ 18446744073709551615 := by rw [Int.natCast_mul]; exact h2
    omega
  refine ⟨⟨_, Tryz.func131, rfl, rfl⟩, fun M w args _ hw ha => ?_⟩
  rw [rep0_ex (vs := [.int .u64 a, .int .u64 b]) ha]
  refine (Tryz.bits_Mul64 a b (by omega) (by omega) w).mono ?_
  rintro e w' ⟨rfl, rfl⟩
  refine ⟨_, rfl, ?_, Below.refl _ _⟩
  simp only [Rep]
  refine ⟨[.int .u64 0, .int .u64 (a * b)], ?_, RepL.cons (ex_rep _ rfl) (RepL.cons (ex_rep _ rfl) RepL.nil)⟩
  rw [Nat.div_eq_of_lt (by omega), Nat.mod_eq_of_lt (by omega), Int.natCast_mul]
  rfl
theorem WMul_con (x y : Int) (h0 : 0 ≤ x) (h1 : 0 ≤ y) (h2 : x * y ≤ 18446744073709551615) (h3 : x ≤ 9223372036854775807) (h4 : y ≤ 9223372036854775807) : Con Tryz.prog CtxP 86 [.ex (.int .i64 x), .ex (.int .i64 y)] (.val (.agg [.ex (.int .i64 0), .ex (.int .u64 (x * y))])) := by
  have a1 := abs_con x h0 h3
  have a2 := abs_con y h1 h4
  have a3 := Mul64_con x y h0 h1 h2 h3 h4
  have h5 : 0 ≤ x * y := Int.mul_nonneg h0 h1
  have f1 : ¬ x < 0 := by omega
  have f2 : ¬ y < 0 := by omega
  generalize x * y = z at *
  refine con_val base Tryz.func86 rfl rfl (by kernel_rfl) (Nat.le_of_ble_eq_true rfl) ?_
  rw [init_eq]
  (repeat' (first | exact trivial | refine stq ?_ | (refine awp_ret ?_; simp only [then_ret, block_ret, end_ret]) | ((first | refine cv (a1) ?_ | refine cv (a2) ?_ | refine cv (a3) ?_ | refine stp ?_ | refine nqif_ways (fun h => ?_) ?_ | ((first | refine gif_ways (fun h => ?_) (fun h => ?_) | refine cif_ways (fun h => ?_) (fun h => ?_)) <;> (try simp only [sxn] at h) <;> (try (exfalso; omega)))) <;> (try (refine wS ?_)))))
  all_goals (refine rc1 rfl ?_)
  all_goals rfl
structure ITerm (ppm every mode : Int) : Prop where
  p0 : 0 ≤ ppm
  p1 : ppm ≤ 1000000
  e0 : 1 ≤ every
  e1 : every ≤ 12
  m0 : 1 ≤ mode
  m1 : mode ≤ 6
theorem ITerm.k0 {ppm every mode : Int} (h : ITerm ppm every mode) : 0 ≤ ppm * every := Int.mul_nonneg h.p0 (by have := h.e0; omega)
theorem ITerm.k1 {ppm every mode : Int} (h : ITerm ppm every mode) : ppm * every ≤ 12000000 := by
  have := Int.mul_le_mul h.p1 h.e1 (by have := h.e0; omega) (by omega)
  omega
theorem interest_con (hD : DivOk) {ppm every mode : Int} (h : ITerm ppm every mode) (p : Int) (h0 : 0 ≤ p) (h1 : p ≤ 1000000000000) : Con Tryz.prog CtxP 60 [.agg [.ex (.int .i64 ppm), .ex (.int .i64 every), .ex (.int .i64 mode)], .ex (.int .i64 p)] (.val (.ex (.int .i64 (intr ppm every mode p)))) := by
  have k0 := h.k0
  have k1 := h.k1
  have p0 := h.p0
  have p1 := h.p1
  have e0 := h.e0
  have e1 := h.e1
  have z0' := Int.mul_nonneg h0 k0
  have z1' : p * (ppm * every) ≤ 1000000000000 * 12000000 := Int.mul_le_mul h1 k1 k0 (by omega)
  have a1 := WMul_con p (ppm * every) h0 k0 (by omega) (by omega) (by omega)
  have a2 := hD (p * (ppm * every)) 12000000 mode z0' (by omega) (by omega) (by decide) (by decide) h.m0 h.m1
  have hr : intr ppm every mode p = rdiv (p * (ppm * every)) 12000000 mode := rfl
  rw [hr]
  generalize hz : p * (ppm * every) = z at *
  clear hz
  generalize rdiv z 12000000 mode = R at *
  generalize hk : ppm * every = k at *
  have hr2 := hk
  refine con_val base Tryz.func60 rfl rfl (by kernel_rfl) (Nat.le_of_ble_eq_true rfl) ?_
  rw [init_eq]
  (repeat' (first | exact trivial | refine stq ?_ | (refine awp_ret ?_; simp only [then_ret, block_ret, end_ret]) | ((first | refine cv (a1) ?_ | refine cv (a2) ?_ | refine stp ?_ | refine nqif_ways (fun h => ?_) ?_ | ((first | refine gif_ways (fun h => ?_) (fun h => ?_) | refine cif_ways (fun h => ?_) (fun h => ?_)) <;> (try simp only [sxn] at h) <;> (try (exfalso; omega)))) <;> (try (refine wS ?_)))))
  all_goals simp only [sxd, z0, p0, Nat.reduceEqDiff, ↓reduceIte, Tryz.f60, *]
end Go.Proofs.YtcoflmckbcnlpaaGreatDoor
namespace Go.Proofs.YtcoflmckbcnlpaaGreatDoor
open Go.RowKit
set_option maxRecDepth 100000
set_option linter.unusedSimpArgs false
theorem stn {a b : Prop} (h : b) (e : b → a := by first | exact vplain | exact fun h => vbS h | exact vcond | exact awp_exit | exact awp_skip | exact awp_label | exact awp_scope | exact fun h => stS h) : a := e h
def regOf (i : Nat) : Code → Option (Array Oper)
  | .region j ops _ => bif Nat.beq i j then some ops else none
  | .seq a b => match regOf i a with
    | some x => some x
    | none => regOf i b
  | .cond _ a b => match regOf i a with
    | some x => some x
    | none => regOf i b
  | .block _ c | .loop c | .scope c => regOf i c
  | _ => none
noncomputable def opsD : Array Oper := ((Tryz.f98.body.bind (regOf 5)).getD #[])
noncomputable def vsD (q r n mode mr : Int) : Nat → AV := fun i =>
  [AV.agg [.ex (.int .i64 0), .ex (.int .u64 q)], .agg [.ex (.int .i64 0), .ex (.int .u64 q)], .ex (.int .i64 r), .ex (.int .i64 n), .ex (.int .i64 mode), .ex (.int .i64 mr), .agg [.ex (.int .i64 0), .ex (.int .u64 mr)], .tup [.agg [.ex (.int .i64 0), .ex (.int .u64 (q + mr))], .ex (.int .i64 0)], .tup [.agg [.ex (.int .i64 0), .ex (.int .u64 (q + mr))], .ex (.int .i64 0)], .agg [.ex (.int .i64 0), .ex (.int .u64 (q + mr))], .ex (.int .i64 0), .junk].getD i .und
theorem divide_reg {C : World → Prop} (Bs : Base Tryz.prog C) {tm : Nat → AV} {hp : Nat → Option Row1} {nx b : Nat} {q r n mode mr : Int} {Q : Exit → AS → Prop} (t8 : tm 8 = .pt b 0 0) (hb : hp b = some ⟨103, [[.ex (.int .i64 0), .ex (.int .u64 q)]], true⟩) (t9 : tm 9 = .ex (.int .i64 r)) (t1 : tm 1 = .ex (.int .i64 n)) (t2 : tm 2 = .ex (.int .i64 mode))
    (a2 : Con Tryz.prog C 148 [.agg [.ex (.int .i64 0), .ex (.int .u64 q)], .ex (.int .i64 r), .ex (.int .i64 n), .ex (.int .i64 mode)] (.val (.ex (.int .i64 mr))))
    (a3 : Con Tryz.prog C 147 [.ex (.int .i64 mr)] (.val (.agg [.ex (.int .i64 0), .ex (.int .u64 mr)])))
    (a4 : Con Tryz.prog C 88 [.agg [.ex (.int .i64 0), .ex (.int .u64 q)], .agg [.ex (.int .i64 0), .ex (.int .u64 mr)]] (.val (.tup [.agg [.ex (.int .i64 0), .ex (.int .u64 (q + mr))], .ex (.int .i64 0)])))
    (hq : ∀ tm' : Nat → AV, tm' 8 = .pt b 0 0 → Q .normal ⟨tm', upd hp b (some ⟨103, [[.ex (.int .i64 0), .ex (.int .u64 (q + mr))]], true⟩), nx + 12⟩) :
    awp Tryz.prog C (.region 5 opsD true) Q ⟨tm, hp, nx⟩ := by
  have hO : Ord opsD opsD.size := ord_of (by kernel_rfl)
  refine region_chain Bs (vs := vsD q r n mode mr) (ch := [11]) (H := fun c => bif Nat.beq c 0 then hp else upd hp b (some ⟨103, [[.ex (.int .i64 0), .ex (.int .u64 (q + mr))]], true⟩)) (B := fun _ => nx) hO ?_ ?_
  · refine ⟨rfl, rfl, fun _ _ => Nat.le_refl _, ?_, by simp, ?_, ?_, ?_, ?_⟩
    · intro h hh
      simp only [List.mem_singleton] at hh
      subst hh
      exact Nat.le_of_ble_eq_true (by kernel_rfl)
    · intro m h h' hm hm'
      cases m with
      | zero => simp at hm'
      | succ m => simp at hm
    · intro o ho
      have : (opsD.toList.all fun o => o.guard.isNone) = true := by kernel_rfl
      have := List.all_eq_true.1 this o ho
      simpa using this
    · intro m h o hm ho
      cases m with
      | succ m => simp at hm
      | zero =>
        simp only [List.getElem?_cons_zero, Option.some.injEq] at hm
        subst hm
        cases ho
        refine .inl ⟨.set b ⟨103, [[.ex (.int .i64 0), .ex (.int .u64 (q + mr))]], true⟩, ?_, rfl, rfl⟩
        have e8 : tmAt opsD opsD.size (vsD q r n mode mr) tm (fun q => decide (q < 11)) 8 = .pt b 0 0 := by rw [← t8]; kernel_rfl
        have e38 : tmAt opsD opsD.size (vsD q r n mode mr) tm (fun q => decide (q < 11)) 38 = vsD q r n mode mr 9 := by kernel_rfl
        generalize hT : tmAt opsD opsD.size (vsD q r n mode mr) tm (fun q => decide (q < 11)) = T at *
        show aval Tryz.prog C (nx + 11) (.store 103 (.tmp 8) (.tmp 38)) 0 (AS.ev ⟨T, fun _ => none, 0⟩) hp _
        have v9 : vsD q r n mode mr 9 = .agg [.ex (.int .i64 0), .ex (.int .u64 (q + mr))] := rfl
        rw [v9] at e38
        simp (disch := omega) only [sx, Value.oneCell', ↓reduceIte, Nat.reduceAdd, Nat.reduceMul, Nat.reduceEqDiff, Nat.reduceLT, Nat.reduceLeDiff, Int.reduceToNat, Int.reduceEq, Int.reduceLT, Int.reduceLE, Int.reduceNe, e8, e38, hb]
        rfl
    · intro i o ho hni c hc hcc
      have hi : i < 12 := (Array.getElem?_eq_some_iff.1 ho).1
      have hms := masks_reach (ops := opsD) opsD.toList [] (fun j => by simp) (fun j i hb => by simp at hb)
      have hc0 : i ≠ 10 → c = 0 := by
        intro h10
        have hr : Reach opsD 11 i := hms 11 i (by
          have hall : ∀ j : Fin 12, (j : Nat) ≠ 10 → (j : Nat) ≠ 11 → ((masks [] opsD.toList).getD 11 0).testBit (j : Nat) = true := by decide +kernel
          exact hall ⟨i, hi⟩ h10 (by simpa using hni))
        have := (hcc 0 11 rfl).2 hr
        omega
      have hi' : i = 0 ∨ i = 1 ∨ i = 2 ∨ i = 3 ∨ i = 4 ∨ i = 5 ∨ i = 6 ∨ i = 7 ∨ i = 8 ∨ i = 9 ∨ i = 10 := by
        have : i ≠ 11 := by simpa using hni
        omega
      clear hi
      rcases hi' with rfl | rfl | rfl | rfl | rfl | rfl | rfl | rfl | rfl | rfl | rfl
      · have hc := hc0 (by decide)
        subst hc
        cases ho
        refine .inl ?_
        have e8 : tmAt opsD opsD.size (vsD q r n mode mr) tm (fun q => decide (q < 0)) 8 = .pt b 0 0 := by rw [← t8]; kernel_rfl
        generalize hT : tmAt opsD opsD.size (vsD q r n mode mr) tm (fun q => decide (q < 0)) = T at *
        show aval Tryz.prog C (nx + 0) (.load 103 (.tmp 8)) _ (AS.ev ⟨T, fun _ => none, 0⟩) hp _
        simp (disch := omega) only [sx, Value.oneCell', ↓reduceIte, Nat.reduceAdd, Nat.reduceMul, Nat.reduceEqDiff, Nat.reduceLT, Nat.reduceLeDiff, Int.reduceToNat, Int.reduceEq, Int.reduceLT, Int.reduceLE, Int.reduceNe, e8, hb]
        exact ⟨rfl, .inl trivial⟩
      · have hc := hc0 (by decide)
        subst hc
        cases ho
        refine .inl ?_
        have e8 : tmAt opsD opsD.size (vsD q r n mode mr) tm (fun q => decide (q < 1)) 8 = .pt b 0 0 := by rw [← t8]; kernel_rfl
        generalize hT : tmAt opsD opsD.size (vsD q r n mode mr) tm (fun q => decide (q < 1)) = T at *
        show aval Tryz.prog C (nx + 1) (.load 103 (.tmp 8)) _ (AS.ev ⟨T, fun _ => none, 0⟩) hp _
        simp (disch := omega) only [sx, Value.oneCell', ↓reduceIte, Nat.reduceAdd, Nat.reduceMul, Nat.reduceEqDiff, Nat.reduceLT, Nat.reduceLeDiff, Int.reduceToNat, Int.reduceEq, Int.reduceLT, Int.reduceLE, Int.reduceNe, e8, hb]
        exact ⟨rfl, .inl trivial⟩
      · have hc := hc0 (by decide)
        subst hc
        cases ho
        refine .inl ?_
        have e9 : tmAt opsD opsD.size (vsD q r n mode mr) tm (fun q => decide (q < 2)) 9 = .ex (.int .i64 r) := by rw [← t9]; kernel_rfl
        generalize hT : tmAt opsD opsD.size (vsD q r n mode mr) tm (fun q => decide (q < 2)) = T at *
        show aval Tryz.prog C (nx + 2) (.move (.tmp 9)) _ (AS.ev ⟨T, fun _ => none, 0⟩) hp _
        simp (disch := omega) only [sx, Value.oneCell', ↓reduceIte, Nat.reduceAdd, Nat.reduceMul, Nat.reduceEqDiff, Nat.reduceLT, Nat.reduceLeDiff, Int.reduceToNat, Int.reduceEq, Int.reduceLT, Int.reduceLE, Int.reduceNe, e9, hb]
        exact ⟨rfl, .inl trivial⟩
      · have hc := hc0 (by decide)
        subst hc
        cases ho
        refine .inl ?_
        have e1 : tmAt opsD opsD.size (vsD q r n mode mr) tm (fun q => decide (q < 3)) 1 = .ex (.int .i64 n) := by rw [← t1]; kernel_rfl
        generalize hT : tmAt opsD opsD.size (vsD q r n mode mr) tm (fun q => decide (q < 3)) = T at *
        show aval Tryz.prog C (nx + 3) (.move (.tmp 1)) _ (AS.ev ⟨T, fun _ => none, 0⟩) hp _
        simp (disch := omega) only [sx, Value.oneCell', ↓reduceIte, Nat.reduceAdd, Nat.reduceMul, Nat.reduceEqDiff, Nat.reduceLT, Nat.reduceLeDiff, Int.reduceToNat, Int.reduceEq, Int.reduceLT, Int.reduceLE, Int.reduceNe, e1, hb]
        exact ⟨rfl, .inl trivial⟩
      · have hc := hc0 (by decide)
        subst hc
        cases ho
        refine .inl ?_
        have e2 : tmAt opsD opsD.size (vsD q r n mode mr) tm (fun q => decide (q < 4)) 2 = .ex (.int .i64 mode) := by rw [← t2]; kernel_rfl
        generalize hT : tmAt opsD opsD.size (vsD q r n mode mr) tm (fun q => decide (q < 4)) = T at *
        show aval Tryz.prog C (nx + 4) (.move (.tmp 2)) _ (AS.ev ⟨T, fun _ => none, 0⟩) hp _
        simp (disch := omega) only [sx, Value.oneCell', ↓reduceIte, Nat.reduceAdd, Nat.reduceMul, Nat.reduceEqDiff, Nat.reduceLT, Nat.reduceLeDiff, Int.reduceToNat, Int.reduceEq, Int.reduceLT, Int.reduceLE, Int.reduceNe, e2, hb]
        exact ⟨rfl, .inl trivial⟩
      · have hc := hc0 (by decide)
        subst hc
        cases ho
        refine .inl ?_
        have e31 : tmAt opsD opsD.size (vsD q r n mode mr) tm (fun q => decide (q < 5)) 31 = vsD q r n mode mr 1 := by kernel_rfl
        have e32 : tmAt opsD opsD.size (vsD q r n mode mr) tm (fun q => decide (q < 5)) 32 = vsD q r n mode mr 2 := by kernel_rfl
        have e33 : tmAt opsD opsD.size (vsD q r n mode mr) tm (fun q => decide (q < 5)) 33 = vsD q r n mode mr 3 := by kernel_rfl
        have e34 : tmAt opsD opsD.size (vsD q r n mode mr) tm (fun q => decide (q < 5)) 34 = vsD q r n mode mr 4 := by kernel_rfl
        generalize hT : tmAt opsD opsD.size (vsD q r n mode mr) tm (fun q => decide (q < 5)) = T at *
        have v1 : vsD q r n mode mr 1 = .agg [.ex (.int .i64 0), .ex (.int .u64 q)] := rfl
        rw [v1] at e31
        have v2 : vsD q r n mode mr 2 = .ex (.int .i64 r) := rfl
        rw [v2] at e32
        have v3 : vsD q r n mode mr 3 = .ex (.int .i64 n) := rfl
        rw [v3] at e33
        have v4 : vsD q r n mode mr 4 = .ex (.int .i64 mode) := rfl
        rw [v4] at e34
        show aval Tryz.prog C (nx + 5) (.call ⟨.value (.func 148), #[.tmp 31, .tmp 32, .tmp 33, .tmp 34], #[103, 3, 3, 3]⟩) _ (AS.ev ⟨T, fun _ => none, 0⟩) hp _
        simp (disch := omega) only [sx, Value.oneCell', ↓reduceIte, Nat.reduceAdd, Nat.reduceMul, Nat.reduceEqDiff, Nat.reduceLT, Nat.reduceLeDiff, Int.reduceToNat, Int.reduceEq, Int.reduceLT, Int.reduceLE, Int.reduceNe, e31, e32, e33, e34]
        refine call_val byA (a2) ?_
        exact ⟨rfl, by first | exact .inl rfl | exact .inr rfl | simp⟩
      · have hc := hc0 (by decide)
        subst hc
        cases ho
        refine .inl ?_
        have e35 : tmAt opsD opsD.size (vsD q r n mode mr) tm (fun q => decide (q < 6)) 35 = vsD q r n mode mr 5 := by kernel_rfl
        generalize hT : tmAt opsD opsD.size (vsD q r n mode mr) tm (fun q => decide (q < 6)) = T at *
        have v5 : vsD q r n mode mr 5 = .ex (.int .i64 mr) := rfl
        rw [v5] at e35
        show aval Tryz.prog C (nx + 6) (.call ⟨.value (.func 147), #[.tmp 35], #[3]⟩) _ (AS.ev ⟨T, fun _ => none, 0⟩) hp _
        simp (disch := omega) only [sx, Value.oneCell', ↓reduceIte, Nat.reduceAdd, Nat.reduceMul, Nat.reduceEqDiff, Nat.reduceLT, Nat.reduceLeDiff, Int.reduceToNat, Int.reduceEq, Int.reduceLT, Int.reduceLE, Int.reduceNe, e35]
        refine call_val byA (a3) ?_
        exact ⟨rfl, by first | exact .inl rfl | exact .inr rfl | simp⟩
      · have hc := hc0 (by decide)
        subst hc
        cases ho
        refine .inl ?_
        have e30 : tmAt opsD opsD.size (vsD q r n mode mr) tm (fun q => decide (q < 7)) 30 = vsD q r n mode mr 0 := by kernel_rfl
        have e36 : tmAt opsD opsD.size (vsD q r n mode mr) tm (fun q => decide (q < 7)) 36 = vsD q r n mode mr 6 := by kernel_rfl
        generalize hT : tmAt opsD opsD.size (vsD q r n mode mr) tm (fun q => decide (q < 7)) = T at *
        have v0 : vsD q r n mode mr 0 = .agg [.ex (.int .i64 0), .ex (.int .u64 q)] := rfl
        rw [v0] at e30
        have v6 : vsD q r n mode mr 6 = .agg [.ex (.int .i64 0), .ex (.int .u64 mr)] := rfl
        rw [v6] at e36
        show aval Tryz.prog C (nx + 7) (.call ⟨.value (.func 88), #[.tmp 30, .tmp 36], #[103, 103]⟩) _ (AS.ev ⟨T, fun _ => none, 0⟩) hp _
        simp (disch := omega) only [sx, Value.oneCell', ↓reduceIte, Nat.reduceAdd, Nat.reduceMul, Nat.reduceEqDiff, Nat.reduceLT, Nat.reduceLeDiff, Int.reduceToNat, Int.reduceEq, Int.reduceLT, Int.reduceLE, Int.reduceNe, e30, e36]
        refine call_val byA (a4) ?_
        exact ⟨rfl, by first | exact .inl rfl | exact .inr rfl | simp⟩
      · have hc := hc0 (by decide)
        subst hc
        cases ho
        refine .inl ?_
        have e37 : tmAt opsD opsD.size (vsD q r n mode mr) tm (fun q => decide (q < 8)) 37 = vsD q r n mode mr 7 := by kernel_rfl
        generalize hT : tmAt opsD opsD.size (vsD q r n mode mr) tm (fun q => decide (q < 8)) = T at *
        have v7 : vsD q r n mode mr 7 = .tup [.agg [.ex (.int .i64 0), .ex (.int .u64 (q + mr))], .ex (.int .i64 0)] := rfl
        rw [v7] at e37
        show aval Tryz.prog C (nx + 8) (.move (.tmp 37)) _ (AS.ev ⟨T, fun _ => none, 0⟩) hp _
        simp (disch := omega) only [sx, Value.oneCell', ↓reduceIte, Nat.reduceAdd, Nat.reduceMul, Nat.reduceEqDiff, Nat.reduceLT, Nat.reduceLeDiff, Int.reduceToNat, Int.reduceEq, Int.reduceLT, Int.reduceLE, Int.reduceNe, e37, hb]
        exact ⟨rfl, .inl trivial⟩
      · have hc := hc0 (by decide)
        subst hc
        cases ho
        refine .inl ?_
        have e29 : tmAt opsD opsD.size (vsD q r n mode mr) tm (fun q => decide (q < 9)) 29 = vsD q r n mode mr 8 := by kernel_rfl
        generalize hT : tmAt opsD opsD.size (vsD q r n mode mr) tm (fun q => decide (q < 9)) = T at *
        have v8 : vsD q r n mode mr 8 = .tup [.agg [.ex (.int .i64 0), .ex (.int .u64 (q + mr))], .ex (.int .i64 0)] := rfl
        rw [v8] at e29
        show aval Tryz.prog C (nx + 9) (.extract (.tmp 29) 0) _ (AS.ev ⟨T, fun _ => none, 0⟩) hp _
        simp (disch := omega) only [sx, Value.oneCell', ↓reduceIte, Nat.reduceAdd, Nat.reduceMul, Nat.reduceEqDiff, Nat.reduceLT, Nat.reduceLeDiff, Int.reduceToNat, Int.reduceEq, Int.reduceLT, Int.reduceLE, Int.reduceNe, e29, hb]
        exact ⟨rfl, .inl trivial⟩
      · cases ho
        refine .inl ?_
        have e29 : tmAt opsD opsD.size (vsD q r n mode mr) tm (fun q => decide (q < 10)) 29 = vsD q r n mode mr 8 := by kernel_rfl
        generalize hT : tmAt opsD opsD.size (vsD q r n mode mr) tm (fun q => decide (q < 10)) = T at *
        have v8 : vsD q r n mode mr 8 = .tup [.agg [.ex (.int .i64 0), .ex (.int .u64 (q + mr))], .ex (.int .i64 0)] := rfl
        rw [v8] at e29
        show aval Tryz.prog C (nx + 10) (.extract (.tmp 29) 1) _ (AS.ev ⟨T, fun _ => none, 0⟩) _ _
        simp (disch := omega) only [sx, Value.oneCell', ↓reduceIte, Nat.reduceAdd, Nat.reduceMul, Nat.reduceEqDiff, Nat.reduceLT, Nat.reduceLeDiff, Int.reduceToNat, Int.reduceEq, Int.reduceLT, Int.reduceLE, Int.reduceNe, e29, hb]
        exact ⟨rfl, .inl trivial⟩
  · refine hq _ ?_
    rw [← t8]
    kernel_rfl
theorem Divide_con : DivOk := by
  intro x n mode h0 h1 hq n0 n1 m1 m2
  have a0 := mode_con mode
  rw [outB_no m1 m2] at a0
  have a1 := WDiv_con x n h0 h1 (by omega) n1
  have b1 : 0 ≤ x / n := Int.ediv_nonneg h0 (by omega)
  have b3 : 0 ≤ x % n := Int.emod_nonneg _ (by omega)
  have b4 : x % n < n := Int.emod_lt_of_pos _ (by omega)
  have hy : ¬ n < 1 := by omega
  have mo := more_01 (x / n) (x % n) n mode
  have hr : rdiv x n mode = if x % n = 0 then x / n else x / n + moreN (x / n) (x % n) n mode := rfl
  have a2 := more_con (x / n) (x % n) n mode b1 (by omega) b3 b4 n1 m1 m2
  have a3 := Of_con (moreN (x / n) (x % n) n mode) mo.1 (by omega)
  have a4 := WAdd_con (x / n) (moreN (x / n) (x % n) n mode) b1 mo.1 (by omega)
  have a5 := Int_con (x / n) b1 (by omega)
  have a6 := Int_con (x / n + moreN (x / n) (x % n) n mode) (by omega) (by omega)
  have o1 := mo.1
  have o2 := mo.2
  generalize moreN (x / n) (x % n) n mode = mr at *
  generalize rdiv x n mode = R at *
  generalize x / n = q at *
  generalize x % n = r at *
  by_cases hz : r = 0
  · rw [if_pos hz] at hr
    subst hz
    (refine con_val base Tryz.func98 rfl rfl (by kernel_rfl) (Nat.le_of_ble_eq_true rfl) ?_; rw [init_eq])
    (repeat' (first | exact trivial | refine stq ?_ | (refine awp_ret ?_; simp only [then_ret, block_ret, end_ret]) | ((first | refine cv (a0) ?_ | refine cv (a1) ?_ | refine cv (a5) ?_ | refine stp ?_ | refine nqif_ways (fun h => ?_) ?_ | ((first | refine gif_ways (fun h => ?_) (fun h => ?_) | refine cif_ways (fun h => ?_) (fun h => ?_)) <;> (try simp only [sxn] at h) <;> (try (exfalso; omega)))) <;> (try (refine wS ?_)))))
    all_goals simp only [sxd, z0, p0, Nat.reduceEqDiff, ↓reduceIte, Tryz.f98, *]
  · rw [if_neg hz] at hr
    have hz2 : 0 < r := by omega
    (refine con_val base Tryz.func98 rfl rfl (by kernel_rfl) (Nat.le_of_ble_eq_true rfl) ?_; rw [init_eq])
    (repeat' (first | exact trivial | refine stq ?_ | (refine awp_ret ?_; simp only [then_ret, block_ret, end_ret]) | ((first | refine cv (a0) ?_ | refine cv (a1) ?_ | refine stn ?_ | refine nqif_ways (fun h => ?_) ?_ | ((first | refine gif_ways (fun h => ?_) (fun h => ?_) | refine cif_ways (fun h => ?_) (fun h => ?_)) <;> (try simp only [sxn] at h) <;> (try (exfalso; omega)))) <;> (try (refine wS ?_)))))
    refine (?_ : awp Tryz.prog CtxP (.region 5 opsD true) _ _)
    refine divide_reg base (b := 17) (r := r) (n := n) (mode := mode) (by exact byQ) (by exact byQ) (by exact byQ) (by exact byQ) (by exact byQ) a2 a3 a4 ?_
    intro tm' e8
    show awp Tryz.prog CtxP _ _ _
    (repeat' (first | exact trivial | refine stq ?_ | (refine awp_ret ?_; simp only [then_ret, block_ret, end_ret]) | ((first | refine cv (a6) ?_ | refine stp ?_ | refine nqif_ways (fun h => ?_) ?_ | ((first | refine gif_ways (fun h => ?_) (fun h => ?_) | refine cif_ways (fun h => ?_) (fun h => ?_)) <;> (try simp only [sxn] at h) <;> (try (exfalso; omega)))) <;> (try (refine wS ?_)))))
    all_goals simp only [sxd, z0, p0, Nat.reduceEqDiff, ↓reduceIte, Tryz.f98, *]
end Go.Proofs.YtcoflmckbcnlpaaGreatDoor
namespace Go.Proofs.YtcoflmckbcnlpaaGreatDoor
open Go.RowKit
set_option maxRecDepth 100000
set_option linter.unusedSimpArgs false
theorem accepted_con {ppm every mode : Int} (h : ITerm ppm every mode) (p : Int) (h0 : 0 ≤ p) (h1 : p ≤ 1000000000000) : Con Tryz.prog CtxP 57 [.agg [.ex (.int .i64 ppm), .ex (.int .i64 every), .ex (.int .i64 mode)], .ex (.int .i64 p)] (.val (.ex (.bool true))) := by
  have p0 := h.p0
  have p1 := h.p1
  have e0 := h.e0
  have e1 := h.e1
  have a1 := mode_con mode
  rw [outB_no h.m0 h.m1] at a1
  refine con_val base Tryz.func57 rfl rfl (by kernel_rfl) (Nat.le_of_ble_eq_true rfl) ?_
  rw [init_eq]
  (repeat' (first | exact trivial | refine stq ?_ | (refine awp_ret ?_; simp only [then_ret, block_ret, end_ret]) | ((first | refine cv (a1) ?_ | refine stp ?_ | refine nqif_ways (fun h => ?_) ?_ | ((first | refine gif_ways (fun h => ?_) (fun h => ?_) | refine cif_ways (fun h => ?_) (fun h => ?_)) <;> (try simp only [sxn] at h) <;> (try (exfalso; omega)))) <;> (try (refine wS ?_)))))
  all_goals simp only [sxd, z0, p0, Nat.reduceEqDiff, ↓reduceIte, Tryz.f57, *]
  all_goals rfl
theorem Interest_con (hD : DivOk) {ppm every mode : Int} (h : ITerm ppm every mode) (p : Int) (h0 : 0 ≤ p) (h1 : p ≤ 1000000000000) : Con Tryz.prog CtxP 20 [.ex (.int .i64 p), .ex (.int .i64 ppm), .ex (.int .i64 every), .ex (.int .i64 mode)] (.val (.tup [.ex (.int .i64 (intr ppm every mode p)), .ex (.int .i64 0)])) := by
  have a1 := accepted_con h p h0 h1
  have a2 := interest_con hD h p h0 h1
  generalize intr ppm every mode p = R at *
  refine con_val base Tryz.func20 rfl rfl (by kernel_rfl) (Nat.le_of_ble_eq_true rfl) ?_
  rw [init_eq]
  (repeat' (first | exact trivial | refine stq ?_ | (refine awp_ret ?_; simp only [then_ret, block_ret, end_ret]) | ((first | refine cv (a1) ?_ | refine cv (a2) ?_ | refine stp ?_ | refine nqif_ways (fun h => ?_) ?_ | ((first | refine gif_ways (fun h => ?_) (fun h => ?_) | refine cif_ways (fun h => ?_) (fun h => ?_)) <;> (try simp only [sxn] at h) <;> (try (exfalso; omega)))) <;> (try (refine wS ?_)))))
  all_goals simp only [sxd, z0, p0, Nat.reduceEqDiff, ↓reduceIte, Tryz.f20, *]
def restV : Option Int → Int
  | some r => r
  | none => 0
theorem rest_con (hD : DivOk) {ppm every mode : Int} (h : ITerm ppm every mode) (p cnt pay : Int) (h0 : 0 ≤ p) (h1 : p ≤ 1000000000000) (c1 : cnt ≤ 1000) (y0 : 0 ≤ pay) (y1 : pay ≤ 1000000000000) :
    Con Tryz.prog CtxP 59 [.agg [.ex (.int .i64 ppm), .ex (.int .i64 every), .ex (.int .i64 mode)], .ex (.int .i64 p), .ex (.int .i64 cnt), .ex (.int .i64 pay)] (.val (.tup [.ex (.int .i64 (restV (restF (intr ppm every mode) pay cnt.toNat p))), .ex (.bool (restF (intr ppm every mode) pay cnt.toNat p).isSome)])) := by
  have hI := Lib.hid fun p (h0 : 0 ≤ p) (h1 : p ≤ 1000000000000) => interest_con hD h p h0 h1
  have hI0 := Lib.hid fun p (h0 : 0 ≤ p) => intr_nonneg (mode := mode) h.k0 h0
  have hI1 := Lib.hid fun p (h0 : 0 ≤ p) => intr_le (mode := mode) h.k1 h0
  generalize intr ppm every mode = I at *
  generalize hR : restF I pay cnt.toNat p = R
  refine con_val base Tryz.func59 rfl rfl (by kernel_rfl) (Nat.le_of_ble_eq_true rfl) ?_
  rw [init_eq]
  (repeat' (first | exact trivial | refine stq ?_ | (refine awp_ret ?_; simp only [then_ret, block_ret, end_ret]) | ((first | refine stp ?_ | refine nqif_ways (fun h => ?_) ?_ | ((first | refine gif_ways (fun h => ?_) (fun h => ?_) | refine cif_ways (fun h => ?_) (fun h => ?_)) <;> (try simp only [sxn] at h) <;> (try (exfalso; omega)))) <;> (try (refine wS ?_)))))
  refine vloop (fun n tm hp nx => ∃ (k b : Nat) (z : Int), n = cnt.toNat - k ∧ k ≤ cnt.toNat ∧ 0 ≤ z ∧ z ≤ 1000000000000 ∧ Hid (restF I pay (cnt.toNat - k) z = R) ∧ tm 4 = .pt b 0 0 ∧ hp b = some ⟨114, [[.ex (.int .i64 ppm), .ex (.int .i64 every), .ex (.int .i64 mode)]], true⟩ ∧ b < nx ∧ tm 1 = .ex (.int .i64 z) ∧ tm 3 = .ex (.int .i64 pay) ∧ tm 10 = .ex (.int .i64 cnt) ∧ tm 11 = .ex (.int .i64 k)) cnt.toNat ⟨0, _, p, rfl, Nat.zero_le _, h0, h1, Lib.hid hR, by exact byQ, by exact byQ, by omega, by exact byS, by exact byS, by exact byS, by exact byS⟩ ?_
  clear hR h0 h1
  rintro n tm hp nx ⟨k, b, z, rfl, hk, z0, z1, hz, g4, gh, hb, g1, g3, g10, g11⟩
  by_cases hlt : k < cnt.toNat
  · have hlt' : (k : Int) < cnt := by omega
    have a1 := hI.out z z0 z1
    have i0 := hI0.out z z0
    have i1 := hI1.out z z0
    have hs := hz.out
    obtain ⟨m, hm⟩ : ∃ m, cnt.toNat - k = m + 1 := ⟨cnt.toNat - k - 1, by omega⟩
    rw [hm] at hs
    rw [restF] at hs
    have hm2 : cnt.toNat - (k + 1) = m := by omega
    have hmax : max 0 (z + I z - pay) = if 0 < z + I z - pay then z + I z - pay else 0 := by split <;> omega
    rw [hmax] at hs
    generalize I z = iz at *
    clear hz hI hI0 hI1 hmax
    by_cases hpos : 0 < z + iz - pay
    · rw [if_pos hpos] at hs
      by_cases hbig : 1000000000000 < z + iz - pay
      · rw [if_pos hbig] at hs
        subst hs
        have r1 : restV none = 0 := rfl
        have r2 : (none : Option Int).isSome = false := rfl
        (repeat' (first | exact trivial | refine stq ?_ | (refine awp_ret ?_; simp only [then_ret, block_ret, end_ret]) | ((first | refine cv (a1) ?_ | refine stp ?_ | refine nqif_ways (fun h => ?_) ?_ | ((first | refine gif_ways (fun h => ?_) (fun h => ?_) | refine cif_ways (fun h => ?_) (fun h => ?_)) <;> (try simp only [sxn] at h) <;> (try (exfalso; omega)))) <;> (try (refine wS ?_)))))
        all_goals simp only [sxd, z0, p0, Nat.reduceEqDiff, ↓reduceIte, Tryz.f59, *]
      · rw [if_neg hbig] at hs
        replace hs := Lib.hid hs
        (repeat' (first | exact trivial | refine stq ?_ | (refine awp_ret ?_; simp only [then_ret, block_ret, end_ret]) | ((first | refine cv (a1) ?_ | refine stp ?_ | refine nqif_ways (fun h => ?_) ?_ | ((first | refine gif_ways (fun h => ?_) (fun h => ?_) | refine cif_ways (fun h => ?_) (fun h => ?_)) <;> (try simp only [sxn] at h) <;> (try (exfalso; omega)))) <;> (try (refine wS ?_)))))
        all_goals exact kround_i (cnt.toNat - (k + 1)) (by omega) ⟨k + 1, b, z + iz - pay, rfl, by omega, by omega, by omega, Lib.hid (by rw [hm2]; exact hs.out), by exact byS, by exact byQ, by omega, by exact byS, by exact byS, by exact byS, by exact byS⟩
    · rw [if_neg hpos] at hs
      rw [if_neg (by decide)] at hs
      replace hs := Lib.hid hs
      (repeat' (first | exact trivial | refine stq ?_ | (refine awp_ret ?_; simp only [then_ret, block_ret, end_ret]) | ((first | refine cv (a1) ?_ | refine stp ?_ | refine nqif_ways (fun h => ?_) ?_ | ((first | refine gif_ways (fun h => ?_) (fun h => ?_) | refine cif_ways (fun h => ?_) (fun h => ?_)) <;> (try simp only [sxn] at h) <;> (try (exfalso; omega)))) <;> (try (refine wS ?_)))))
      all_goals exact kround_i (cnt.toNat - (k + 1)) (by omega) ⟨k + 1, b, 0, rfl, by omega, by omega, by omega, Lib.hid (by rw [hm2]; exact hs.out), by exact byS, by exact byQ, by omega, by exact byS, by exact byS, by exact byS, by exact byS⟩
  · have hlt' : ¬ (k : Int) < cnt := by omega
    have hs := hz.out
    rw [show cnt.toNat - k = 0 by omega] at hs
    rw [restF] at hs
    subst hs
    have r1 : restV (some z) = z := rfl
    have r2 : (some z).isSome = true := rfl
    clear hz hI hI0 hI1
    (repeat' (first | exact trivial | refine stq ?_ | (refine awp_ret ?_; simp only [then_ret, block_ret, end_ret]) | ((first | refine stp ?_ | refine nqif_ways (fun h => ?_) ?_ | ((first | refine gif_ways (fun h => ?_) (fun h => ?_) | refine cif_ways (fun h => ?_) (fun h => ?_)) <;> (try simp only [sxn] at h) <;> (try (exfalso; omega)))) <;> (try (refine wS ?_)))))
    all_goals simp only [sxd, z0, p0, Nat.reduceEqDiff, ↓reduceIte, Tryz.f59, *]
end Go.Proofs.YtcoflmckbcnlpaaGreatDoor