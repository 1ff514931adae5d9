/-
  What is owed, walked. Conditions: those that each theorem states. More of the kind.
-/
import Derived.Test.YtcoflmckbcnlpaaGreatDoorLF
import Derived.Test.YtcoflmckbcnlpaaGreatDoorInl
import Derived.Test.YtcoflmckbcnlpaaGreatDoorLD
import Derived.Test.YtcoflmckbcnlpaaGreatDoorGEng2
namespace Go.Proofs.YtcoflmckbcnlpaaGreatDoor
open Go.RowKit
set_option maxRecDepth 100000
set_option linter.unusedSimpArgs false
theorem len_asl {hp : Nat → Option Row1} {b o n : Nat} {k : AV → Eff → Prop} : opLen Tryz.prog hp 40 (.asl b o n) k = k (.ex (.int .i64 n)) .none := by
  unfold opLen
  rw [ty_40]
theorem ix_asl {hp : Nat → Option Row1} {b o m n : Nat} {k : AV → Eff → Prop} : opIx Tryz.prog hp 40 (.asl b o m) n k = (n < m ∧ k (.pt b 0 (o + n * 2)) .none) := by
  unfold opIx
  rw [ty_40]
  dsimp only
  rw [ty_64]
  exact propext ⟨fun h => h.2, fun h => ⟨by decide, h⟩⟩
theorem owed1_con (a v : Int) : Con Tryz.prog CtxP 65 [.agg [.ex (.int .i64 a), .ex (.int .i64 v)]] (.val (.ex (.bool (decide (v ≤ 0))))) := by
  refine con_val base Tryz.func65 rfl rfl (by kernel_rfl) (Nat.le_of_ble_eq_true rfl) ?_
  rw [init_eq]
  (repeat' (first | exact trivial | refine stq ?_ | (refine awp_ret ?_; simp only [then_ret, block_ret, end_ret]) | ((first | refine stp ?_ | refine nqif_ways (fun h => ?_) ?_ | ((first | refine gif_ways (fun h => ?_) (fun h => ?_) | refine cif_ways (fun h => ?_) (fun h => ?_)) <;> (try simp only [sxn] at h) <;> (try (exfalso; omega)))) <;> (try (simp (disch := omega) only [len_asl, ix_asl, sx, Value.oneCell', ↓reduceIte, Nat.reduceAdd, Nat.reduceMul, Nat.reduceEqDiff, Nat.reduceLT, Nat.reduceLeDiff, Int.reduceToNat, Int.reduceEq, Int.reduceLT, Int.reduceLE, Int.reduceNe, *])))))
  all_goals simp only [sxd, z0, p0, Nat.reduceEqDiff, ↓reduceIte, Tryz.f65, *]
theorem IndexP_inl {hp : Nat → Option Row1} {nx b : Nat} {x y : Int} (hb : hp b = some ⟨118, [[.ex (.int .i64 1), .ex (.int .i64 0), .ex (.int .i64 2), .ex (.int .i64 0), .ex (.int .i64 3), .ex (.int .i64 x), .ex (.int .i64 4), .ex (.int .i64 y)]], true⟩) (hn : b < nx) :
    ConI Tryz.prog CtxP 66 [.asl b 0 4, .ex (.func (.func 65) #[] #[])] hp nx (fun u h n => u = .ex (.int .i64 0) ∧ h = hp) := by
  refine con_inl base Tryz.func66 rfl rfl (by kernel_rfl) (Nat.le_of_ble_eq_true rfl) ?_
  have a1 := owed1_con 1 0
  show awp Tryz.prog CtxP _ _ ⟨tmI [.asl b 0 4, .ex (.func (.func 65) #[] #[])], hp, nx⟩
  (repeat' (first | exact trivial | refine stq ?_ | (refine awp_ret ?_; simp only [then_ret, block_ret, end_ret]) | ((first | refine stp ?_ | refine nqif_ways (fun h => ?_) ?_ | ((first | refine gif_ways (fun h => ?_) (fun h => ?_) | refine cif_ways (fun h => ?_) (fun h => ?_)) <;> (try simp only [sxn] at h) <;> (try (exfalso; omega)))) <;> (try (simp (disch := omega) only [len_asl, ix_asl, sx, Value.oneCell', ↓reduceIte, Nat.reduceAdd, Nat.reduceMul, Nat.reduceEqDiff, Nat.reduceLT, Nat.reduceLeDiff, Int.reduceToNat, Int.reduceEq, Int.reduceLT, Int.reduceLE, Int.reduceNe, *])))))
  refine vloop (fun n tm hp' nx' => n = 1 ∧ hp' = hp ∧ tm 0 = .asl b 0 4 ∧ tm 1 = .ex (.func (.func 65) #[] #[]) ∧ tm 7 = .ex (.int .i64 4) ∧ tm 8 = .ex (.int .i64 0)) 1 ⟨rfl, rfl, by exact byS, by exact byS, by exact byS, by exact byS⟩ ?_
  rintro n tm hp' nx' ⟨rfl, rfl, g0, g1, g7, g8⟩
  (repeat' (first | exact trivial | refine stq ?_ | (refine awp_ret ?_; simp only [then_ret, block_ret, end_ret]) | ((first | refine cv (a1) ?_ | refine stp ?_ | refine nqif_ways (fun h => ?_) ?_ | ((first | refine gif_ways (fun h => ?_) (fun h => ?_) | refine cif_ways (fun h => ?_) (fun h => ?_)) <;> (try simp only [sxn] at h) <;> (try (exfalso; omega)))) <;> (try (simp (disch := omega) only [len_asl, ix_asl, sx, Value.oneCell', ↓reduceIte, Nat.reduceAdd, Nat.reduceMul, Nat.reduceEqDiff, Nat.reduceLT, Nat.reduceLeDiff, Int.reduceToNat, Int.reduceEq, Int.reduceLT, Int.reduceLE, Int.reduceNe, *])))))
  all_goals (unfold aretI; exact ⟨rfl, trivial⟩)
end Go.Proofs.YtcoflmckbcnlpaaGreatDoor
namespace Go.Proofs.YtcoflmckbcnlpaaGreatDoor
open Go.RowKit
set_option maxRecDepth 100000
set_option linter.unusedSimpArgs false
theorem slice_lo {hp : Nat → Option Row1} {id t b o n : Nat} {l : Int} {ev : Operand → AV} {k : AV → Eff → Prop} (h : ev (.tmp t) = .ex (.int .i64 l)) (h0 : 0 ≤ l) (h1 : l.toNat ≤ n) (hk : k (.asl b (o + l.toNat * 2) (n - l.toNat)) .none) : opSlice Tryz.prog hp id 40 (.asl b o n) ev (some (.tmp t)) none none k := by
  unfold opSlice
  rw [ty_40]
  dsimp only
  rw [ty_64]
  exact ⟨⟨by decide, rfl⟩, _, _, h, h0, ⟨h1, Nat.le_refl _⟩, hk⟩
theorem slice_hi {hp : Nat → Option Row1} {id t b o n : Nat} {l : Int} {ev : Operand → AV} {k : AV → Eff → Prop} (h : ev (.tmp t) = .ex (.int .i64 l)) (h0 : 0 ≤ l) (h1 : l.toNat ≤ n) (hk : k (.asl b (o + 0 * 2) (l.toNat - 0)) .none) : opSlice Tryz.prog hp id 40 (.asl b o n) ev none (some (.tmp t)) none k := by
  unfold opSlice
  rw [ty_40]
  dsimp only
  rw [ty_64]
  exact ⟨⟨by decide, rfl⟩, _, _, h, h0, ⟨Nat.zero_le _, h1⟩, hk⟩
theorem DelP_inl {hp : Nat → Option Row1} {nx b : Nat} {x y : Int} (hb : hp b = some ⟨118, [[.ex (.int .i64 1), .ex (.int .i64 0), .ex (.int .i64 2), .ex (.int .i64 0), .ex (.int .i64 3), .ex (.int .i64 x), .ex (.int .i64 4), .ex (.int .i64 y)]], true⟩) (hn : b < nx) (hx : 0 < x) (hy : 0 < y) :
    ConI Tryz.prog CtxP 64 [.asl b 0 4, .ex (.func (.func 65) #[] #[])] hp nx (fun u h n => u = .asl b 0 2 ∧ h b = some ⟨118, [[.ex (.int .i64 3), .ex (.int .i64 x), .ex (.int .i64 4), .ex (.int .i64 y), .ex (.int .i64 0), .ex (.int .i64 0), .ex (.int .i64 0), .ex (.int .i64 0)]], true⟩) := by
  refine con_inl base Tryz.func64 rfl rfl (by kernel_rfl) (Nat.le_of_ble_eq_true rfl) ?_
  show awp Tryz.prog CtxP _ _ ⟨tmI [.asl b 0 4, .ex (.func (.func 65) #[] #[])], hp, nx⟩
  have hbn : ¬ b = nx := by omega
  refine awp_seq ?_
  refine vplain ?_
  (simp (disch := omega) only [len_asl, ix_asl, sx, Value.oneCell', ↓reduceIte, Nat.reduceAdd, Nat.reduceMul, Nat.reduceEqDiff, Nat.reduceLT, Nat.reduceLeDiff, Int.reduceToNat, Int.reduceEq, Int.reduceLT, Int.reduceLE, Int.reduceNe, *])
  refine awp_seq ?_
  refine awp_inl ?_
  refine semL_ops base [_, _] 0 _ ?_
  (simp (disch := omega) only [len_asl, ix_asl, sx, Value.oneCell', ↓reduceIte, Nat.reduceAdd, Nat.reduceMul, Nat.reduceEqDiff, Nat.reduceLT, Nat.reduceLeDiff, Int.reduceToNat, Int.reduceEq, Int.reduceLT, Int.reduceLE, Int.reduceNe, *])
  refine inl_fn rfl rfl rfl (by rfl) (IndexP_inl (b := b) (x := x) (y := y) (by exact byQ) (by omega)) ?_
  rintro u h1 n1 ⟨rfl, rfl⟩ hle
  refine semL_ops base [_] _ _ ?_
  (simp (disch := omega) only [len_asl, ix_asl, sx, Value.oneCell', ↓reduceIte, Nat.reduceAdd, Nat.reduceMul, Nat.reduceEqDiff, Nat.reduceLT, Nat.reduceLeDiff, Int.reduceToNat, Int.reduceEq, Int.reduceLT, Int.reduceLE, Int.reduceNe, *])
  refine semL_nil ?_
  show awp Tryz.prog CtxP _ _ _
  (repeat' (first | exact trivial | refine stq ?_ | (refine awp_ret ?_; simp only [then_ret, block_ret, end_ret]) | ((first | refine stp ?_ | refine nqif_ways (fun h => ?_) ?_ | ((first | refine gif_ways (fun h => ?_) (fun h => ?_) | refine cif_ways (fun h => ?_) (fun h => ?_)) <;> (try simp only [sxn] at h) <;> (try (exfalso; omega)))) <;> (try (simp (disch := omega) only [len_asl, ix_asl, sx, Value.oneCell', ↓reduceIte, Nat.reduceAdd, Nat.reduceMul, Nat.reduceEqDiff, Nat.reduceLT, Nat.reduceLeDiff, Int.reduceToNat, Int.reduceEq, Int.reduceLT, Int.reduceLE, Int.reduceNe, *])))))
  refine vloop (fun n tm hp nx => ∃ (i j : Int) (R : List (List AV)), tm 0 = .asl b 0 4 ∧ tm 1 = .ex (.func (.func 65) #[] #[]) ∧ tm 5 = .ex (.int .i64 i) ∧ tm 6 = .ex (.int .i64 j) ∧ hp b = some ⟨118, R, true⟩ ∧ b < nx ∧ ((n = 3 ∧ i = 0 ∧ j = 1 ∧ R = [[.ex (.int .i64 1), .ex (.int .i64 0), .ex (.int .i64 2), .ex (.int .i64 0), .ex (.int .i64 3), .ex (.int .i64 x), .ex (.int .i64 4), .ex (.int .i64 y)]]) ∨ (n = 2 ∧ i = 0 ∧ j = 2 ∧ R = [[.ex (.int .i64 1), .ex (.int .i64 0), .ex (.int .i64 2), .ex (.int .i64 0), .ex (.int .i64 3), .ex (.int .i64 x), .ex (.int .i64 4), .ex (.int .i64 y)]]) ∨ (n = 1 ∧ i = 1 ∧ j = 3 ∧ R = [[.ex (.int .i64 3), .ex (.int .i64 x), .ex (.int .i64 2), .ex (.int .i64 0), .ex (.int .i64 3), .ex (.int .i64 x), .ex (.int .i64 4), .ex (.int .i64 y)]]) ∨ (n = 0 ∧ i = 2 ∧ j = 4 ∧ R = [[.ex (.int .i64 3), .ex (.int .i64 x), .ex (.int .i64 4), .ex (.int .i64 y), .ex (.int .i64 3), .ex (.int .i64 x), .ex (.int .i64 4), .ex (.int .i64 y)]]))) 3 ⟨0, 1, _, by exact byS, by exact byS, by exact byS, by exact byS, by exact byQ, by omega, .inl ⟨rfl, rfl, rfl, rfl⟩⟩ ?_
  clear hn hbn hb
  have a1 := owed1_con 2 0
  have a2 := owed1_con 3 x
  have a3 := owed1_con 4 y
  have d2 : decide (x ≤ 0) = false := decide_eq_false (by omega)
  have d3 : decide (y ≤ 0) = false := decide_eq_false (by omega)
  rw [d2] at a2
  rw [d3] at a3
  rintro n tm hp nx ⟨i, j, R, t0, t1, t5, t6, hb, hn, ⟨rfl, rfl, rfl, rfl⟩ | ⟨rfl, rfl, rfl, rfl⟩ | ⟨rfl, rfl, rfl, rfl⟩ | ⟨rfl, rfl, rfl, rfl⟩⟩
  · (repeat' (first | exact trivial | refine stq ?_ | (refine awp_ret ?_; simp only [then_ret, block_ret, end_ret]) | ((first | refine cv (a1) ?_ | refine stp ?_ | refine nqif_ways (fun h => ?_) ?_ | ((first | refine gif_ways (fun h => ?_) (fun h => ?_) | refine cif_ways (fun h => ?_) (fun h => ?_)) <;> (try simp only [sxn] at h) <;> (try (exfalso; omega)))) <;> (try (simp (disch := omega) only [len_asl, ix_asl, sx, Value.oneCell', ↓reduceIte, Nat.reduceAdd, Nat.reduceMul, Nat.reduceEqDiff, Nat.reduceLT, Nat.reduceLeDiff, Int.reduceToNat, Int.reduceEq, Int.reduceLT, Int.reduceLE, Int.reduceNe, *])))))
    all_goals exact kround_i 2 (by omega) ⟨0, 2, _, by exact byS, by exact byS, by exact byS, by exact byS, by exact byQ, by omega, .inr (.inl ⟨rfl, rfl, rfl, rfl⟩)⟩
  · (repeat' (first | exact trivial | refine stq ?_ | (refine awp_ret ?_; simp only [then_ret, block_ret, end_ret]) | ((first | refine cv (a2) ?_ | refine stp ?_ | refine nqif_ways (fun h => ?_) ?_ | ((first | refine gif_ways (fun h => ?_) (fun h => ?_) | refine cif_ways (fun h => ?_) (fun h => ?_)) <;> (try simp only [sxn] at h) <;> (try (exfalso; omega)))) <;> (try (simp (disch := omega) only [len_asl, ix_asl, sx, Value.oneCell', ↓reduceIte, Nat.reduceAdd, Nat.reduceMul, Nat.reduceEqDiff, Nat.reduceLT, Nat.reduceLeDiff, Int.reduceToNat, Int.reduceEq, Int.reduceLT, Int.reduceLE, Int.reduceNe, *])))))
    all_goals exact kround_i 1 (by omega) ⟨1, 3, _, by exact byS, by exact byS, by exact byS, by exact byS, by exact byQ, by omega, .inr (.inr (.inl ⟨rfl, rfl, rfl, rfl⟩))⟩
  · (repeat' (first | exact trivial | refine stq ?_ | (refine awp_ret ?_; simp only [then_ret, block_ret, end_ret]) | ((first | refine cv (a3) ?_ | refine stp ?_ | refine nqif_ways (fun h => ?_) ?_ | ((first | refine gif_ways (fun h => ?_) (fun h => ?_) | refine cif_ways (fun h => ?_) (fun h => ?_)) <;> (try simp only [sxn] at h) <;> (try (exfalso; omega)))) <;> (try (simp (disch := omega) only [len_asl, ix_asl, sx, Value.oneCell', ↓reduceIte, Nat.reduceAdd, Nat.reduceMul, Nat.reduceEqDiff, Nat.reduceLT, Nat.reduceLeDiff, Int.reduceToNat, Int.reduceEq, Int.reduceLT, Int.reduceLE, Int.reduceNe, *])))))
    all_goals exact kround_i 0 (by omega) ⟨2, 4, _, by exact byS, by exact byS, by exact byS, by exact byS, by exact byQ, by omega, .inr (.inr (.inr ⟨rfl, rfl, rfl, rfl⟩))⟩
  · (repeat' (first | exact trivial | refine stq ?_ | (refine awp_ret ?_; simp only [then_ret, block_ret, end_ret]) | ((first | refine stp ?_ | refine nqif_ways (fun h => ?_) ?_ | ((first | refine gif_ways (fun h => ?_) (fun h => ?_) | refine cif_ways (fun h => ?_) (fun h => ?_)) <;> (try simp only [sxn] at h) <;> (try (exfalso; omega)))) <;> (try (simp (disch := omega) only [len_asl, ix_asl, sx, Value.oneCell', ↓reduceIte, Nat.reduceAdd, Nat.reduceMul, Nat.reduceEqDiff, Nat.reduceLT, Nat.reduceLeDiff, Int.reduceToNat, Int.reduceEq, Int.reduceLT, Int.reduceLE, Int.reduceNe, *])))))
    refine slice_lo (by exact byQ) (by decide) (by decide) ?_
    (simp (disch := omega) only [len_asl, ix_asl, sx, Value.oneCell', ↓reduceIte, Nat.reduceAdd, Nat.reduceMul, Nat.reduceEqDiff, Nat.reduceLT, Nat.reduceLeDiff, Int.reduceToNat, Int.reduceEq, Int.reduceLT, Int.reduceLE, Int.reduceNe, *])
    show kca Tryz.prog hp 64 _ b 4 2
    refine ⟨_, _, hb, ⟨rfl, rfl, by decide, by rw [ty_64]; exact Nat.le_of_ble_eq_true rfl⟩, by rw [ty_64]; exact ⟨rfl, by decide, rfl⟩, ?_⟩
    rw [ty_64]
    (simp (disch := omega) only [len_asl, ix_asl, sx, Value.oneCell', ↓reduceIte, Nat.reduceAdd, Nat.reduceMul, Nat.reduceEqDiff, Nat.reduceLT, Nat.reduceLeDiff, Int.reduceToNat, Int.reduceEq, Int.reduceLT, Int.reduceLE, Int.reduceNe, *])
    (repeat' (first | exact trivial | refine stq ?_ | (refine awp_ret ?_; simp only [then_ret, block_ret, end_ret]) | ((first | refine stp ?_ | refine nqif_ways (fun h => ?_) ?_ | ((first | refine gif_ways (fun h => ?_) (fun h => ?_) | refine cif_ways (fun h => ?_) (fun h => ?_)) <;> (try simp only [sxn] at h) <;> (try (exfalso; omega)))) <;> (try (simp (disch := omega) only [len_asl, ix_asl, sx, Value.oneCell', ↓reduceIte, Nat.reduceAdd, Nat.reduceMul, Nat.reduceEqDiff, Nat.reduceLT, Nat.reduceLeDiff, Int.reduceToNat, Int.reduceEq, Int.reduceLT, Int.reduceLE, Int.reduceNe, *])))))
    refine slice_hi (by exact byQ) (by decide) (by decide) ?_
    (simp (disch := omega) only [len_asl, ix_asl, sx, Value.oneCell', ↓reduceIte, Nat.reduceAdd, Nat.reduceMul, Nat.reduceEqDiff, Nat.reduceLT, Nat.reduceLeDiff, Int.reduceToNat, Int.reduceEq, Int.reduceLT, Int.reduceLE, Int.reduceNe, *])
    (repeat' (first | exact trivial | refine stq ?_ | (refine awp_ret ?_; simp only [then_ret, block_ret, end_ret]) | ((first | refine stp ?_ | refine nqif_ways (fun h => ?_) ?_ | ((first | refine gif_ways (fun h => ?_) (fun h => ?_) | refine cif_ways (fun h => ?_) (fun h => ?_)) <;> (try simp only [sxn] at h) <;> (try (exfalso; omega)))) <;> (try (simp (disch := omega) only [len_asl, ix_asl, sx, Value.oneCell', ↓reduceIte, Nat.reduceAdd, Nat.reduceMul, Nat.reduceEqDiff, Nat.reduceLT, Nat.reduceLeDiff, Int.reduceToNat, Int.reduceEq, Int.reduceLT, Int.reduceLE, Int.reduceNe, *])))))
    all_goals (unfold aretI; exact ⟨rfl, by first | rfl | exact byQ⟩)
end Go.Proofs.YtcoflmckbcnlpaaGreatDoor
namespace Go.Proofs.YtcoflmckbcnlpaaGreatDoor
open Go.RowKit
set_option maxRecDepth 100000
set_option linter.unusedSimpArgs false
theorem DelX_inl {hp : Nat → Option Row1} {nx b : Nat} {x : Int} (hb : hp b = some ⟨118, [[.ex (.int .i64 1), .ex (.int .i64 0), .ex (.int .i64 2), .ex (.int .i64 0), .ex (.int .i64 3), .ex (.int .i64 x), .ex (.int .i64 4), .ex (.int .i64 0)]], true⟩) (hn : b < nx) (hx : 0 < x) :
    ConI Tryz.prog CtxP 64 [.asl b 0 4, .ex (.func (.func 65) #[] #[])] hp nx (fun u h n => u = .asl b 0 1 ∧ h b = some ⟨118, [[.ex (.int .i64 3), .ex (.int .i64 x), .ex (.int .i64 0), .ex (.int .i64 0), .ex (.int .i64 0), .ex (.int .i64 0), .ex (.int .i64 0), .ex (.int .i64 0)]], true⟩) := by
  refine con_inl base Tryz.func64 rfl rfl (by kernel_rfl) (Nat.le_of_ble_eq_true rfl) ?_
  show awp Tryz.prog CtxP _ _ ⟨tmI [.asl b 0 4, .ex (.func (.func 65) #[] #[])], hp, nx⟩
  have hbn : ¬ b = nx := by omega
  refine awp_seq ?_
  refine vplain ?_
  (simp (disch := omega) only [len_asl, ix_asl, sx, Value.oneCell', ↓reduceIte, Nat.reduceAdd, Nat.reduceMul, Nat.reduceEqDiff, Nat.reduceLT, Nat.reduceLeDiff, Int.reduceToNat, Int.reduceEq, Int.reduceLT, Int.reduceLE, Int.reduceNe, *])
  refine awp_seq ?_
  refine awp_inl ?_
  refine semL_ops base [_, _] 0 _ ?_
  (simp (disch := omega) only [len_asl, ix_asl, sx, Value.oneCell', ↓reduceIte, Nat.reduceAdd, Nat.reduceMul, Nat.reduceEqDiff, Nat.reduceLT, Nat.reduceLeDiff, Int.reduceToNat, Int.reduceEq, Int.reduceLT, Int.reduceLE, Int.reduceNe, *])
  refine inl_fn rfl rfl rfl (by rfl) (IndexP_inl (b := b) (x := x) (y := 0) (by exact byQ) (by omega)) ?_
  rintro u h1 n1 ⟨rfl, rfl⟩ hle
  refine semL_ops base [_] _ _ ?_
  (simp (disch := omega) only [len_asl, ix_asl, sx, Value.oneCell', ↓reduceIte, Nat.reduceAdd, Nat.reduceMul, Nat.reduceEqDiff, Nat.reduceLT, Nat.reduceLeDiff, Int.reduceToNat, Int.reduceEq, Int.reduceLT, Int.reduceLE, Int.reduceNe, *])
  refine semL_nil ?_
  show awp Tryz.prog CtxP _ _ _
  (repeat' (first | exact trivial | refine stq ?_ | (refine awp_ret ?_; simp only [then_ret, block_ret, end_ret]) | ((first | refine stp ?_ | refine nqif_ways (fun h => ?_) ?_ | ((first | refine gif_ways (fun h => ?_) (fun h => ?_) | refine cif_ways (fun h => ?_) (fun h => ?_)) <;> (try simp only [sxn] at h) <;> (try (exfalso; omega)))) <;> (try (simp (disch := omega) only [len_asl, ix_asl, sx, Value.oneCell', ↓reduceIte, Nat.reduceAdd, Nat.reduceMul, Nat.reduceEqDiff, Nat.reduceLT, Nat.reduceLeDiff, Int.reduceToNat, Int.reduceEq, Int.reduceLT, Int.reduceLE, Int.reduceNe, *])))))
  refine vloop (fun n tm hp nx => ∃ (i j : Int) (R : List (List AV)), tm 0 = .asl b 0 4 ∧ tm 1 = .ex (.func (.func 65) #[] #[]) ∧ tm 5 = .ex (.int .i64 i) ∧ tm 6 = .ex (.int .i64 j) ∧ hp b = some ⟨118, R, true⟩ ∧ b < nx ∧ ((n = 3 ∧ i = 0 ∧ j = 1 ∧ R = [[.ex (.int .i64 1), .ex (.int .i64 0), .ex (.int .i64 2), .ex (.int .i64 0), .ex (.int .i64 3), .ex (.int .i64 x), .ex (.int .i64 4), .ex (.int .i64 0)]]) ∨ (n = 2 ∧ i = 0 ∧ j = 2 ∧ R = [[.ex (.int .i64 1), .ex (.int .i64 0), .ex (.int .i64 2), .ex (.int .i64 0), .ex (.int .i64 3), .ex (.int .i64 x), .ex (.int .i64 4), .ex (.int .i64 0)]]) ∨ (n = 1 ∧ i = 1 ∧ j = 3 ∧ R = [[.ex (.int .i64 3), .ex (.int .i64 x), .ex (.int .i64 2), .ex (.int .i64 0), .ex (.int .i64 3), .ex (.int .i64 x), .ex (.int .i64 4), .ex (.int .i64 0)]]) ∨ (n = 0 ∧ i = 1 ∧ j = 4 ∧ R = [[.ex (.int .i64 3), .ex (.int .i64 x), .ex (.int .i64 2), .ex (.int .i64 0), .ex (.int .i64 3), .ex (.int .i64 x), .ex (.int .i64 4), .ex (.int .i64 0)]]))) 3 ⟨0, 1, _, by exact byS, by exact byS, by exact byS, by exact byS, by exact byQ, by omega, .inl ⟨rfl, rfl, rfl, rfl⟩⟩ ?_
  clear hn hbn hb
  have a1 := owed1_con 2 0
  have a2 := owed1_con 3 x
  have a3 := owed1_con 4 0
  have d2 : decide (x ≤ 0) = false := decide_eq_false (by omega)
  rw [d2] at a2
  rintro n tm hp nx ⟨i, j, R, t0, t1, t5, t6, hb, hn, ⟨rfl, rfl, rfl, rfl⟩ | ⟨rfl, rfl, rfl, rfl⟩ | ⟨rfl, rfl, rfl, rfl⟩ | ⟨rfl, rfl, rfl, rfl⟩⟩
  · (repeat' (first | exact trivial | refine stq ?_ | (refine awp_ret ?_; simp only [then_ret, block_ret, end_ret]) | ((first | refine cv (a1) ?_ | refine stp ?_ | refine nqif_ways (fun h => ?_) ?_ | ((first | refine gif_ways (fun h => ?_) (fun h => ?_) | refine cif_ways (fun h => ?_) (fun h => ?_)) <;> (try simp only [sxn] at h) <;> (try (exfalso; omega)))) <;> (try (simp (disch := omega) only [len_asl, ix_asl, sx, Value.oneCell', ↓reduceIte, Nat.reduceAdd, Nat.reduceMul, Nat.reduceEqDiff, Nat.reduceLT, Nat.reduceLeDiff, Int.reduceToNat, Int.reduceEq, Int.reduceLT, Int.reduceLE, Int.reduceNe, *])))))
    all_goals exact kround_i 2 (by omega) ⟨0, 2, _, by exact byS, by exact byS, by exact byS, by exact byS, by exact byQ, by omega, .inr (.inl ⟨rfl, rfl, rfl, rfl⟩)⟩
  · (repeat' (first | exact trivial | refine stq ?_ | (refine awp_ret ?_; simp only [then_ret, block_ret, end_ret]) | ((first | refine cv (a2) ?_ | refine stp ?_ | refine nqif_ways (fun h => ?_) ?_ | ((first | refine gif_ways (fun h => ?_) (fun h => ?_) | refine cif_ways (fun h => ?_) (fun h => ?_)) <;> (try simp only [sxn] at h) <;> (try (exfalso; omega)))) <;> (try (simp (disch := omega) only [len_asl, ix_asl, sx, Value.oneCell', ↓reduceIte, Nat.reduceAdd, Nat.reduceMul, Nat.reduceEqDiff, Nat.reduceLT, Nat.reduceLeDiff, Int.reduceToNat, Int.reduceEq, Int.reduceLT, Int.reduceLE, Int.reduceNe, *])))))
    all_goals exact kround_i 1 (by omega) ⟨1, 3, _, by exact byS, by exact byS, by exact byS, by exact byS, by exact byQ, by omega, .inr (.inr (.inl ⟨rfl, rfl, rfl, rfl⟩))⟩
  · (repeat' (first | exact trivial | refine stq ?_ | (refine awp_ret ?_; simp only [then_ret, block_ret, end_ret]) | ((first | refine cv (a3) ?_ | refine stp ?_ | refine nqif_ways (fun h => ?_) ?_ | ((first | refine gif_ways (fun h => ?_) (fun h => ?_) | refine cif_ways (fun h => ?_) (fun h => ?_)) <;> (try simp only [sxn] at h) <;> (try (exfalso; omega)))) <;> (try (simp (disch := omega) only [len_asl, ix_asl, sx, Value.oneCell', ↓reduceIte, Nat.reduceAdd, Nat.reduceMul, Nat.reduceEqDiff, Nat.reduceLT, Nat.reduceLeDiff, Int.reduceToNat, Int.reduceEq, Int.reduceLT, Int.reduceLE, Int.reduceNe, *])))))
    all_goals exact kround_i 0 (by omega) ⟨1, 4, _, by exact byS, by exact byS, by exact byS, by exact byS, by exact byQ, by omega, .inr (.inr (.inr ⟨rfl, rfl, rfl, rfl⟩))⟩
  · (repeat' (first | exact trivial | refine stq ?_ | (refine awp_ret ?_; simp only [then_ret, block_ret, end_ret]) | ((first | refine stp ?_ | refine nqif_ways (fun h => ?_) ?_ | ((first | refine gif_ways (fun h => ?_) (fun h => ?_) | refine cif_ways (fun h => ?_) (fun h => ?_)) <;> (try simp only [sxn] at h) <;> (try (exfalso; omega)))) <;> (try (simp (disch := omega) only [len_asl, ix_asl, sx, Value.oneCell', ↓reduceIte, Nat.reduceAdd, Nat.reduceMul, Nat.reduceEqDiff, Nat.reduceLT, Nat.reduceLeDiff, Int.reduceToNat, Int.reduceEq, Int.reduceLT, Int.reduceLE, Int.reduceNe, *])))))
    refine slice_lo (by exact byQ) (by decide) (by decide) ?_
    (simp (disch := omega) only [len_asl, ix_asl, sx, Value.oneCell', ↓reduceIte, Nat.reduceAdd, Nat.reduceMul, Nat.reduceEqDiff, Nat.reduceLT, Nat.reduceLeDiff, Int.reduceToNat, Int.reduceEq, Int.reduceLT, Int.reduceLE, Int.reduceNe, *])
    show kca Tryz.prog hp 64 _ b 2 3
    refine ⟨_, _, hb, ⟨rfl, rfl, by decide, by rw [ty_64]; exact Nat.le_of_ble_eq_true rfl⟩, by rw [ty_64]; exact ⟨rfl, by decide, rfl⟩, ?_⟩
    rw [ty_64]
    (simp (disch := omega) only [len_asl, ix_asl, sx, Value.oneCell', ↓reduceIte, Nat.reduceAdd, Nat.reduceMul, Nat.reduceEqDiff, Nat.reduceLT, Nat.reduceLeDiff, Int.reduceToNat, Int.reduceEq, Int.reduceLT, Int.reduceLE, Int.reduceNe, *])
    (repeat' (first | exact trivial | refine stq ?_ | (refine awp_ret ?_; simp only [then_ret, block_ret, end_ret]) | ((first | refine stp ?_ | refine nqif_ways (fun h => ?_) ?_ | ((first | refine gif_ways (fun h => ?_) (fun h => ?_) | refine cif_ways (fun h => ?_) (fun h => ?_)) <;> (try simp only [sxn] at h) <;> (try (exfalso; omega)))) <;> (try (simp (disch := omega) only [len_asl, ix_asl, sx, Value.oneCell', ↓reduceIte, Nat.reduceAdd, Nat.reduceMul, Nat.reduceEqDiff, Nat.reduceLT, Nat.reduceLeDiff, Int.reduceToNat, Int.reduceEq, Int.reduceLT, Int.reduceLE, Int.reduceNe, *])))))
    refine slice_hi (by exact byQ) (by decide) (by decide) ?_
    (simp (disch := omega) only [len_asl, ix_asl, sx, Value.oneCell', ↓reduceIte, Nat.reduceAdd, Nat.reduceMul, Nat.reduceEqDiff, Nat.reduceLT, Nat.reduceLeDiff, Int.reduceToNat, Int.reduceEq, Int.reduceLT, Int.reduceLE, Int.reduceNe, *])
    (repeat' (first | exact trivial | refine stq ?_ | (refine awp_ret ?_; simp only [then_ret, block_ret, end_ret]) | ((first | refine stp ?_ | refine nqif_ways (fun h => ?_) ?_ | ((first | refine gif_ways (fun h => ?_) (fun h => ?_) | refine cif_ways (fun h => ?_) (fun h => ?_)) <;> (try simp only [sxn] at h) <;> (try (exfalso; omega)))) <;> (try (simp (disch := omega) only [len_asl, ix_asl, sx, Value.oneCell', ↓reduceIte, Nat.reduceAdd, Nat.reduceMul, Nat.reduceEqDiff, Nat.reduceLT, Nat.reduceLeDiff, Int.reduceToNat, Int.reduceEq, Int.reduceLT, Int.reduceLE, Int.reduceNe, *])))))
    all_goals (unfold aretI; exact ⟨rfl, by first | rfl | exact byQ⟩)
theorem DelY_inl {hp : Nat → Option Row1} {nx b : Nat} {y : Int} (hb : hp b = some ⟨118, [[.ex (.int .i64 1), .ex (.int .i64 0), .ex (.int .i64 2), .ex (.int .i64 0), .ex (.int .i64 3), .ex (.int .i64 0), .ex (.int .i64 4), .ex (.int .i64 y)]], true⟩) (hn : b < nx) (hy : 0 < y) :
    ConI Tryz.prog CtxP 64 [.asl b 0 4, .ex (.func (.func 65) #[] #[])] hp nx (fun u h n => u = .asl b 0 1 ∧ h b = some ⟨118, [[.ex (.int .i64 4), .ex (.int .i64 y), .ex (.int .i64 0), .ex (.int .i64 0), .ex (.int .i64 0), .ex (.int .i64 0), .ex (.int .i64 0), .ex (.int .i64 0)]], true⟩) := by
  refine con_inl base Tryz.func64 rfl rfl (by kernel_rfl) (Nat.le_of_ble_eq_true rfl) ?_
  show awp Tryz.prog CtxP _ _ ⟨tmI [.asl b 0 4, .ex (.func (.func 65) #[] #[])], hp, nx⟩
  have hbn : ¬ b = nx := by omega
  refine awp_seq ?_
  refine vplain ?_
  (simp (disch := omega) only [len_asl, ix_asl, sx, Value.oneCell', ↓reduceIte, Nat.reduceAdd, Nat.reduceMul, Nat.reduceEqDiff, Nat.reduceLT, Nat.reduceLeDiff, Int.reduceToNat, Int.reduceEq, Int.reduceLT, Int.reduceLE, Int.reduceNe, *])
  refine awp_seq ?_
  refine awp_inl ?_
  refine semL_ops base [_, _] 0 _ ?_
  (simp (disch := omega) only [len_asl, ix_asl, sx, Value.oneCell', ↓reduceIte, Nat.reduceAdd, Nat.reduceMul, Nat.reduceEqDiff, Nat.reduceLT, Nat.reduceLeDiff, Int.reduceToNat, Int.reduceEq, Int.reduceLT, Int.reduceLE, Int.reduceNe, *])
  refine inl_fn rfl rfl rfl (by rfl) (IndexP_inl (b := b) (x := 0) (y := y) (by exact byQ) (by omega)) ?_
  rintro u h1 n1 ⟨rfl, rfl⟩ hle
  refine semL_ops base [_] _ _ ?_
  (simp (disch := omega) only [len_asl, ix_asl, sx, Value.oneCell', ↓reduceIte, Nat.reduceAdd, Nat.reduceMul, Nat.reduceEqDiff, Nat.reduceLT, Nat.reduceLeDiff, Int.reduceToNat, Int.reduceEq, Int.reduceLT, Int.reduceLE, Int.reduceNe, *])
  refine semL_nil ?_
  show awp Tryz.prog CtxP _ _ _
  (repeat' (first | exact trivial | refine stq ?_ | (refine awp_ret ?_; simp only [then_ret, block_ret, end_ret]) | ((first | refine stp ?_ | refine nqif_ways (fun h => ?_) ?_ | ((first | refine gif_ways (fun h => ?_) (fun h => ?_) | refine cif_ways (fun h => ?_) (fun h => ?_)) <;> (try simp only [sxn] at h) <;> (try (exfalso; omega)))) <;> (try (simp (disch := omega) only [len_asl, ix_asl, sx, Value.oneCell', ↓reduceIte, Nat.reduceAdd, Nat.reduceMul, Nat.reduceEqDiff, Nat.reduceLT, Nat.reduceLeDiff, Int.reduceToNat, Int.reduceEq, Int.reduceLT, Int.reduceLE, Int.reduceNe, *])))))
  refine vloop (fun n tm hp nx => ∃ (i j : Int) (R : List (List AV)), tm 0 = .asl b 0 4 ∧ tm 1 = .ex (.func (.func 65) #[] #[]) ∧ tm 5 = .ex (.int .i64 i) ∧ tm 6 = .ex (.int .i64 j) ∧ hp b = some ⟨118, R, true⟩ ∧ b < nx ∧ ((n = 3 ∧ i = 0 ∧ j = 1 ∧ R = [[.ex (.int .i64 1), .ex (.int .i64 0), .ex (.int .i64 2), .ex (.int .i64 0), .ex (.int .i64 3), .ex (.int .i64 0), .ex (.int .i64 4), .ex (.int .i64 y)]]) ∨ (n = 2 ∧ i = 0 ∧ j = 2 ∧ R = [[.ex (.int .i64 1), .ex (.int .i64 0), .ex (.int .i64 2), .ex (.int .i64 0), .ex (.int .i64 3), .ex (.int .i64 0), .ex (.int .i64 4), .ex (.int .i64 y)]]) ∨ (n = 1 ∧ i = 0 ∧ j = 3 ∧ R = [[.ex (.int .i64 1), .ex (.int .i64 0), .ex (.int .i64 2), .ex (.int .i64 0), .ex (.int .i64 3), .ex (.int .i64 0), .ex (.int .i64 4), .ex (.int .i64 y)]]) ∨ (n = 0 ∧ i = 1 ∧ j = 4 ∧ R = [[.ex (.int .i64 4), .ex (.int .i64 y), .ex (.int .i64 2), .ex (.int .i64 0), .ex (.int .i64 3), .ex (.int .i64 0), .ex (.int .i64 4), .ex (.int .i64 y)]]))) 3 ⟨0, 1, _, by exact byS, by exact byS, by exact byS, by exact byS, by exact byQ, by omega, .inl ⟨rfl, rfl, rfl, rfl⟩⟩ ?_
  clear hn hbn hb
  have a1 := owed1_con 2 0
  have a2 := owed1_con 3 0
  have a3 := owed1_con 4 y
  have d2 : decide (y ≤ 0) = false := decide_eq_false (by omega)
  rw [d2] at a3
  rintro n tm hp nx ⟨i, j, R, t0, t1, t5, t6, hb, hn, ⟨rfl, rfl, rfl, rfl⟩ | ⟨rfl, rfl, rfl, rfl⟩ | ⟨rfl, rfl, rfl, rfl⟩ | ⟨rfl, rfl, rfl, rfl⟩⟩
  · (repeat' (first | exact trivial | refine stq ?_ | (refine awp_ret ?_; simp only [then_ret, block_ret, end_ret]) | ((first | refine cv (a1) ?_ | refine stp ?_ | refine nqif_ways (fun h => ?_) ?_ | ((first | refine gif_ways (fun h => ?_) (fun h => ?_) | refine cif_ways (fun h => ?_) (fun h => ?_)) <;> (try simp only [sxn] at h) <;> (try (exfalso; omega)))) <;> (try (simp (disch := omega) only [len_asl, ix_asl, sx, Value.oneCell', ↓reduceIte, Nat.reduceAdd, Nat.reduceMul, Nat.reduceEqDiff, Nat.reduceLT, Nat.reduceLeDiff, Int.reduceToNat, Int.reduceEq, Int.reduceLT, Int.reduceLE, Int.reduceNe, *])))))
    all_goals exact kround_i 2 (by omega) ⟨0, 2, _, by exact byS, by exact byS, by exact byS, by exact byS, by exact byQ, by omega, .inr (.inl ⟨rfl, rfl, rfl, rfl⟩)⟩
  · (repeat' (first | exact trivial | refine stq ?_ | (refine awp_ret ?_; simp only [then_ret, block_ret, end_ret]) | ((first | refine cv (a2) ?_ | refine stp ?_ | refine nqif_ways (fun h => ?_) ?_ | ((first | refine gif_ways (fun h => ?_) (fun h => ?_) | refine cif_ways (fun h => ?_) (fun h => ?_)) <;> (try simp only [sxn] at h) <;> (try (exfalso; omega)))) <;> (try (simp (disch := omega) only [len_asl, ix_asl, sx, Value.oneCell', ↓reduceIte, Nat.reduceAdd, Nat.reduceMul, Nat.reduceEqDiff, Nat.reduceLT, Nat.reduceLeDiff, Int.reduceToNat, Int.reduceEq, Int.reduceLT, Int.reduceLE, Int.reduceNe, *])))))
    all_goals exact kround_i 1 (by omega) ⟨0, 3, _, by exact byS, by exact byS, by exact byS, by exact byS, by exact byQ, by omega, .inr (.inr (.inl ⟨rfl, rfl, rfl, rfl⟩))⟩
  · (repeat' (first | exact trivial | refine stq ?_ | (refine awp_ret ?_; simp only [then_ret, block_ret, end_ret]) | ((first | refine cv (a3) ?_ | refine stp ?_ | refine nqif_ways (fun h => ?_) ?_ | ((first | refine gif_ways (fun h => ?_) (fun h => ?_) | refine cif_ways (fun h => ?_) (fun h => ?_)) <;> (try simp only [sxn] at h) <;> (try (exfalso; omega)))) <;> (try (simp (disch := omega) only [len_asl, ix_asl, sx, Value.oneCell', ↓reduceIte, Nat.reduceAdd, Nat.reduceMul, Nat.reduceEqDiff, Nat.reduceLT, Nat.reduceLeDiff, Int.reduceToNat, Int.reduceEq, Int.reduceLT, Int.reduceLE, Int.reduceNe, *])))))
    all_goals exact kround_i 0 (by omega) ⟨1, 4, _, by exact byS, by exact byS, by exact byS, by exact byS, by exact byQ, by omega, .inr (.inr (.inr ⟨rfl, rfl, rfl, rfl⟩))⟩
  · (repeat' (first | exact trivial | refine stq ?_ | (refine awp_ret ?_; simp only [then_ret, block_ret, end_ret]) | ((first | refine stp ?_ | refine nqif_ways (fun h => ?_) ?_ | ((first | refine gif_ways (fun h => ?_) (fun h => ?_) | refine cif_ways (fun h => ?_) (fun h => ?_)) <;> (try simp only [sxn] at h) <;> (try (exfalso; omega)))) <;> (try (simp (disch := omega) only [len_asl, ix_asl, sx, Value.oneCell', ↓reduceIte, Nat.reduceAdd, Nat.reduceMul, Nat.reduceEqDiff, Nat.reduceLT, Nat.reduceLeDiff, Int.reduceToNat, Int.reduceEq, Int.reduceLT, Int.reduceLE, Int.reduceNe, *])))))
    refine slice_lo (by exact byQ) (by decide) (by decide) ?_
    (simp (disch := omega) only [len_asl, ix_asl, sx, Value.oneCell', ↓reduceIte, Nat.reduceAdd, Nat.reduceMul, Nat.reduceEqDiff, Nat.reduceLT, Nat.reduceLeDiff, Int.reduceToNat, Int.reduceEq, Int.reduceLT, Int.reduceLE, Int.reduceNe, *])
    show kca Tryz.prog hp 64 _ b 2 3
    refine ⟨_, _, hb, ⟨rfl, rfl, by decide, by rw [ty_64]; exact Nat.le_of_ble_eq_true rfl⟩, by rw [ty_64]; exact ⟨rfl, by decide, rfl⟩, ?_⟩
    rw [ty_64]
    (simp (disch := omega) only [len_asl, ix_asl, sx, Value.oneCell', ↓reduceIte, Nat.reduceAdd, Nat.reduceMul, Nat.reduceEqDiff, Nat.reduceLT, Nat.reduceLeDiff, Int.reduceToNat, Int.reduceEq, Int.reduceLT, Int.reduceLE, Int.reduceNe, *])
    (repeat' (first | exact trivial | refine stq ?_ | (refine awp_ret ?_; simp only [then_ret, block_ret, end_ret]) | ((first | refine stp ?_ | refine nqif_ways (fun h => ?_) ?_ | ((first | refine gif_ways (fun h => ?_) (fun h => ?_) | refine cif_ways (fun h => ?_) (fun h => ?_)) <;> (try simp only [sxn] at h) <;> (try (exfalso; omega)))) <;> (try (simp (disch := omega) only [len_asl, ix_asl, sx, Value.oneCell', ↓reduceIte, Nat.reduceAdd, Nat.reduceMul, Nat.reduceEqDiff, Nat.reduceLT, Nat.reduceLeDiff, Int.reduceToNat, Int.reduceEq, Int.reduceLT, Int.reduceLE, Int.reduceNe, *])))))
    refine slice_hi (by exact byQ) (by decide) (by decide) ?_
    (simp (disch := omega) only [len_asl, ix_asl, sx, Value.oneCell', ↓reduceIte, Nat.reduceAdd, Nat.reduceMul, Nat.reduceEqDiff, Nat.reduceLT, Nat.reduceLeDiff, Int.reduceToNat, Int.reduceEq, Int.reduceLT, Int.reduceLE, Int.reduceNe, *])
    (repeat' (first | exact trivial | refine stq ?_ | (refine awp_ret ?_; simp only [then_ret, block_ret, end_ret]) | ((first | refine stp ?_ | refine nqif_ways (fun h => ?_) ?_ | ((first | refine gif_ways (fun h => ?_) (fun h => ?_) | refine cif_ways (fun h => ?_) (fun h => ?_)) <;> (try simp only [sxn] at h) <;> (try (exfalso; omega)))) <;> (try (simp (disch := omega) only [len_asl, ix_asl, sx, Value.oneCell', ↓reduceIte, Nat.reduceAdd, Nat.reduceMul, Nat.reduceEqDiff, Nat.reduceLT, Nat.reduceLeDiff, Int.reduceToNat, Int.reduceEq, Int.reduceLT, Int.reduceLE, Int.reduceNe, *])))))
    all_goals (unfold aretI; exact ⟨rfl, by first | rfl | exact byQ⟩)
end Go.Proofs.YtcoflmckbcnlpaaGreatDoor
namespace Go.Proofs.YtcoflmckbcnlpaaGreatDoor
open Go.RowKit
set_option maxRecDepth 100000
section
variable {P : Program} {C : World → Prop}
theorem repC_exs {φ : Phi} {M : Nat → Prop} {w : World} : ∀ {l vs : List Value}, RepL φ M w (l.map .ex) vs → vs = l
  | [], _, h => by simpa only [List.map_nil, RepL] using h
  | x :: l, _, h => by
    simp only [List.map_cons, RepL] at h
    obtain ⟨v, vs', rfl, h1, h2⟩ := h
    simp only [Rep] at h1
    rw [h1.1, repC_exs h2]
theorem exsC_rep {φ : Phi} {M : Nat → Prop} {w : World} : ∀ {l : List Value}, (∀ u ∈ l, u.oneCell' = true) → RepL φ M w (l.map .ex) l
  | [], _ => by simp only [List.map_nil, RepL]
  | x :: l, h => by
    simp only [List.map_cons, RepL]
    exact ⟨x, l, rfl, by simp only [Rep]; exact ⟨trivial, h x List.mem_cons_self⟩, exsC_rep fun u hu => h u (List.mem_cons_of_mem _ hu)⟩
theorem exssC_rep {φ : Phi} {M : Nat → Prop} {w : World} {sz : Nat} : ∀ {es : List (List Value)}, (∀ x ∈ es, x.length = sz) → (∀ u ∈ es.flatten, u.oneCell' = true) → RepLL φ M w sz (es.map (·.map .ex)) es.flatten
  | [], _, _ => by simp only [List.map_nil, List.flatten_nil, RepLL]
  | x :: es, h, k => by
    simp only [List.map_cons, List.flatten_cons, RepLL]
    refine ⟨x, es.flatten, rfl, h x List.mem_cons_self, fun u hu => k u ?_, exsC_rep fun u hu => k u ?_, exssC_rep (fun y hy => h y (List.mem_cons_of_mem _ hy)) fun u hu => k u ?_⟩
    · rw [List.flatten_cons]; exact List.mem_append_left _ hu
    · rw [List.flatten_cons]; exact List.mem_append_left _ hu
    · rw [List.flatten_cons]; exact List.mem_append_right _ hu
theorem con_asl {f : FuncId} {us : List AV} {t sz : Nat} {es : List (List Value)} (hz : ∀ x ∈ es, x.length = sz)
    (hcon : ConI P C f us (fun _ => none) 0 fun u h _ => ∃ b rest, u = .asl b 0 es.length ∧ h b = some ⟨t, [es.flatten.map .ex ++ rest], true⟩) : Con P C f us (.val (.sl (es.map (·.map .ex)))) := by
  refine ⟨hcon.1, fun M w args hM hC ha => ?_⟩
  have hMo : Mo phi0 (fun _ => none) M = M := by
    funext b
    apply propext
    exact ⟨fun h => h.elim (fun h => h) fun ⟨i, β, v, h1, _⟩ => (by cases h1), .inl⟩
  have st : StH P M { toWorld := w, J := fun _ => False, wE := w } phi0 (fun _ => none) 0 w :=
    ⟨⟨Below.refl _ _, rfl, rfl, fun t => by simp [Rep, Array.getD], fun i β v sz h1 => (by cases h1), fun i β v h1 => (by cases h1), fun i j β γ u v b h1 => (by cases h1), fun _ _ => rfl, fun b hb => .inl (hM b hb), fun i v h1 => (by cases h1), fun _ h => h.elim, fun i β v b h1 => (by cases h1), Nat.le_refl _, fun _ _ h => h.elim⟩, fun _ _ => rfl⟩
  refine (hcon.2 M _ phi0 w args hC st (by rw [hMo]; exact ha)).mono ?_
  rintro e w' ⟨v, u0, hp0, nx0, φ', rfl, ⟨b, rest, rfl, hrow⟩, _, hst, hu⟩
  refine ⟨v, rfl, ?_, hst.1.below⟩
  simp only [Rep] at hu ⊢
  obtain ⟨hd, z, A, c, hφ, rfl, hnc, hA, hcm⟩ := hu
  refine ⟨A, c, by rw [List.length_map], by rw [List.length_map]; exact hnc, hcm, trivial, fun hne => ?_⟩
  have hA := hA (fun h0 => hne (by rw [List.eq_nil_of_length_eq_zero h0]; rfl))
  obtain ⟨hsz, xs, h5, h6⟩ := hst.1.hpr b _ _ z hrow hφ
  simp only [RepLL] at h6
  obtain ⟨x, y, rfl, hl, ho, hr, rfl⟩ := h6
  have hr1 := hr.take (es.flatten.map AV.ex).length
  rw [List.take_left] at hr1
  have hx := repC_exs hr1
  rw [List.length_map] at hx
  rcases h5.2 with ⟨q1, q2⟩ | ⟨g, cap, cur, q1, q2, q3, q4, q5, _⟩
  · simp at q2
  · rw [q1] at hA
    refine ⟨g, 0, sz, es.flatten, by rw [hA]; rfl, fun hMg => ?_, (Array.getElem?_eq_some_iff.1 q3).1, fun j y hy => ?_, exssC_rep hz fun u hu => ho u ?_⟩
    · have h1 := hM g hMg
      have h2 : w.heap.size ≤ g := q2
      omega
    · rw [← hx] at hy
      have hlt := (List.getElem?_eq_some_iff.1 hy).1
      rw [List.length_take] at hlt
      rw [List.getElem?_take, if_pos (by omega)] at hy
      have := h5.cells (g := g) (by rw [q1]; rfl) j y (by simpa using hy)
      rwa [addr_add] at this
    · rw [← hx] at hu
      exact List.mem_of_mem_take hu
end
end Go.Proofs.YtcoflmckbcnlpaaGreatDoor
namespace Go.Proofs.YtcoflmckbcnlpaaGreatDoor
open Go.RowKit
set_option maxRecDepth 100000
set_option linter.unusedSimpArgs false
theorem slice_arr {hp : Nat → Option Row1} {id b : Nat} {ev : Operand → AV} {k : AV → Eff → Prop} : opSlice Tryz.prog hp id 118 (.pt b 0 0) ev none none none k = k (.asl b 0 4) .none := by
  unfold opSlice
  rw [ty_118]
  dsimp only
  rw [ty_64]
  exact propext ⟨fun h => h.2, fun h => ⟨⟨by decide, rfl, rfl, rfl, rfl, by decide⟩, h⟩⟩
theorem Owed_core (l : LoanV) {on P I q p : Int} {D : List DueV} (a1 : Con Tryz.prog CtxP 63 [.sl (duesC l.dues), .ex (.int .i64 on)] (.fresh 39 (duesC D))) (a2 : Con Tryz.prog CtxP 30 [.sl (duesC D)] (.val (.tup [.ex (.int .i64 P), .ex (.int .i64 I)])))
    (f1 : l.fee = 0) (f2 : l.pen = 0) (hP : P - l.pp = p) (hI : I - l.pit = q) (q0 : 0 ≤ q) (q1 : q ≤ 1000000000000000) (p0 : 0 ≤ p) (p1 : p ≤ 1000000000000000) {es : List (List Value)} {rest : List AV} (hz : ∀ x ∈ es, x.length = 2)
    (hdel : ∀ (hp : Nat → Option Row1) (nx b : Nat), hp b = some ⟨118, [[.ex (.int .i64 1), .ex (.int .i64 0), .ex (.int .i64 2), .ex (.int .i64 0), .ex (.int .i64 3), .ex (.int .i64 q), .ex (.int .i64 4), .ex (.int .i64 p)]], true⟩ → b < nx →
      ConI Tryz.prog CtxP 64 [.asl b 0 4, .ex (.func (.func 65) #[] #[])] hp nx (fun u h n => u = .asl b 0 es.length ∧ h b = some ⟨118, [es.flatten.map .ex ++ rest], true⟩)) :
    Con Tryz.prog CtxP 24 [.agg [.ex (.int .i64 l.id), .ex (.int .i64 l.acc), .ex (.int .i64 l.st), .ex (.int .i64 l.pp), .ex (.int .i64 l.pit), .ex (.int .i64 l.fee), .ex (.int .i64 l.pen), .ex (.int .i64 l.chg), .ex (.int .i64 l.prov), .ex (.int .i64 l.loss), .ex (.int .i64 l.recd), .ex (.int .i64 l.t.method), .ex (.int .i64 l.t.prin), .ex (.int .i64 l.t.ppm), .ex (.int .i64 l.t.start), .ex (.int .i64 l.t.every), .ex (.int .i64 l.t.count), .ex (.int .i64 l.t.bal), .ex (.int .i64 l.t.mode), .ex (.int .i64 l.t.pen), .ex (.int .i64 l.t.fee), .ex (.string l.t.cal), .ex (.string l.t.cur), .sl (duesC l.dues), .sl []], .ex (.int .i64 on)] (.val (.sl (es.map (·.map .ex)))) := by
  refine con_asl (t := 118) hz ?_
  refine con_inl base Tryz.func24 rfl rfl (by kernel_rfl) (Nat.le_of_ble_eq_true rfl) ?_
  show awp Tryz.prog CtxP _ _ ⟨tmI [.agg [.ex (.int .i64 l.id), .ex (.int .i64 l.acc), .ex (.int .i64 l.st), .ex (.int .i64 l.pp), .ex (.int .i64 l.pit), .ex (.int .i64 l.fee), .ex (.int .i64 l.pen), .ex (.int .i64 l.chg), .ex (.int .i64 l.prov), .ex (.int .i64 l.loss), .ex (.int .i64 l.recd), .ex (.int .i64 l.t.method), .ex (.int .i64 l.t.prin), .ex (.int .i64 l.t.ppm), .ex (.int .i64 l.t.start), .ex (.int .i64 l.t.every), .ex (.int .i64 l.t.count), .ex (.int .i64 l.t.bal), .ex (.int .i64 l.t.mode), .ex (.int .i64 l.t.pen), .ex (.int .i64 l.t.fee), .ex (.string l.t.cal), .ex (.string l.t.cur), .sl (duesC l.dues), .sl []], .ex (.int .i64 on)], fun _ => none, 0⟩
  have f4 := dues_p0 D
  have f5 := dues_ns D
  have f6 := dues_z0 D
  refine awp_seq ?_
  refine vplain ?_
  (simp (disch := omega) only [len_asl, ix_asl, slice_arr, sx, Value.oneCell', ↓reduceIte, Nat.reduceAdd, Nat.reduceMul, Nat.reduceEqDiff, Nat.reduceLT, Nat.reduceLeDiff, Int.reduceToNat, Int.reduceEq, Int.reduceLT, Int.reduceLE, Int.reduceNe, *])
  refine awp_seq ?_
  refine vplain ?_
  (simp (disch := omega) only [len_asl, ix_asl, slice_arr, sx, Value.oneCell', ↓reduceIte, Nat.reduceAdd, Nat.reduceMul, Nat.reduceEqDiff, Nat.reduceLT, Nat.reduceLeDiff, Int.reduceToNat, Int.reduceEq, Int.reduceLT, Int.reduceLE, Int.reduceNe, *])
  refine call_fresh byA (a1) ?_
  (simp (disch := omega) only [len_asl, ix_asl, slice_arr, sx, Value.oneCell', ↓reduceIte, Nat.reduceAdd, Nat.reduceMul, Nat.reduceEqDiff, Nat.reduceLT, Nat.reduceLeDiff, Int.reduceToNat, Int.reduceEq, Int.reduceLT, Int.reduceLE, Int.reduceNe, *])
  refine call_val byA (a2) ?_
  (simp (disch := omega) only [len_asl, ix_asl, slice_arr, sx, Value.oneCell', ↓reduceIte, Nat.reduceAdd, Nat.reduceMul, Nat.reduceEqDiff, Nat.reduceLT, Nat.reduceLeDiff, Int.reduceToNat, Int.reduceEq, Int.reduceLT, Int.reduceLE, Int.reduceNe, *])
  refine awp_seq ?_
  refine vplain ?_
  (simp (disch := omega) only [len_asl, ix_asl, slice_arr, sx, Value.oneCell', ↓reduceIte, Nat.reduceAdd, Nat.reduceMul, Nat.reduceEqDiff, Nat.reduceLT, Nat.reduceLeDiff, Int.reduceToNat, Int.reduceEq, Int.reduceLT, Int.reduceLE, Int.reduceNe, *])
  refine awp_seq ?_
  refine awp_inl ?_
  refine semL_ops base [_] 0 _ ?_
  (simp (disch := omega) only [len_asl, ix_asl, slice_arr, sx, Value.oneCell', ↓reduceIte, Nat.reduceAdd, Nat.reduceMul, Nat.reduceEqDiff, Nat.reduceLT, Nat.reduceLeDiff, Int.reduceToNat, Int.reduceEq, Int.reduceLT, Int.reduceLE, Int.reduceNe, *])
  refine inl_fn rfl rfl rfl (by rfl) (hdel _ _ 29 ?h1 ?h2) ?_
  case h1 => exact byQ
  case h2 => omega
  rintro u h1 n1 ⟨rfl, he⟩ hle
  refine semL_ops base [_] _ _ ?_
  (simp (disch := omega) only [len_asl, ix_asl, slice_arr, sx, Value.oneCell', ↓reduceIte, Nat.reduceAdd, Nat.reduceMul, Nat.reduceEqDiff, Nat.reduceLT, Nat.reduceLeDiff, Int.reduceToNat, Int.reduceEq, Int.reduceLT, Int.reduceLE, Int.reduceNe, *])
  refine semL_nil ?_
  show awp Tryz.prog CtxP _ _ _
  (repeat' (first | exact trivial | refine stq ?_ | (refine awp_ret ?_; simp only [then_ret, block_ret, end_ret]) | ((first | refine stp ?_ | refine nqif_ways (fun h => ?_) ?_ | ((first | refine gif_ways (fun h => ?_) (fun h => ?_) | refine cif_ways (fun h => ?_) (fun h => ?_)) <;> (try simp only [sxn] at h) <;> (try (exfalso; omega)))) <;> (try (simp (disch := omega) only [len_asl, ix_asl, slice_arr, sx, Value.oneCell', ↓reduceIte, Nat.reduceAdd, Nat.reduceMul, Nat.reduceEqDiff, Nat.reduceLT, Nat.reduceLeDiff, Int.reduceToNat, Int.reduceEq, Int.reduceLT, Int.reduceLE, Int.reduceNe, *])))))
  all_goals (unfold aretI; exact ⟨_, _, rfl, he⟩)
end Go.Proofs.YtcoflmckbcnlpaaGreatDoor
namespace Go.Proofs.YtcoflmckbcnlpaaGreatDoor
open Go.RowKit
set_option maxRecDepth 100000
set_option linter.unusedSimpArgs false
theorem take1_con (p : Int × Int) (kd : Int) : Con Tryz.prog CtxP 67 [.agg [.ex (.int .i64 p.1), .ex (.int .i64 p.2)], .rp [.ex (.int .i64 kd)] 0] (.val (.ex (.bool (decide (p.1 = kd))))) := by
  refine con_val base Tryz.func67 rfl rfl (by kernel_rfl) (Nat.le_of_ble_eq_true rfl) ?_
  rw [init_eq]
  (repeat' (first | exact trivial | refine stq ?_ | (refine awp_ret ?_; simp only [then_ret, block_ret, end_ret]) | ((first | refine stp ?_ | refine nqif_ways (fun h => ?_) ?_ | ((first | refine gif_ways (fun h => ?_) (fun h => ?_) | refine cif_ways (fun h => ?_) (fun h => ?_)) <;> (try simp only [sxn] at h) <;> (try (exfalso; omega)))) <;> (try (refine wS ?_)))))
  all_goals simp only [sxd, z0, p0, Nat.reduceEqDiff, ↓reduceIte, Tryz.f67, *]
def isK (kd : Int) (p : Int × Int) : Bool := decide (p.1 = kd)
theorem IndexT_con (l : List (Int × Int)) (kd : Int) (hj : l.length ≤ 10) : Con Tryz.prog CtxP 66 [.sl (partsC l), .fn 67 [.rp [.ex (.int .i64 kd)] 0]] (.val (.ex (.int .i64 (idxB (isK kd) l)))) := by
  refine con_val base Tryz.func66 rfl rfl (by kernel_rfl) (Nat.le_of_ble_eq_true rfl) ?_
  rw [init_eq]
  have q1 := parts_len l
  (repeat' (first | exact trivial | refine stq ?_ | (refine awp_ret ?_; simp only [then_ret, block_ret, end_ret]) | ((first | refine stp ?_ | refine nqif_ways (fun h => ?_) ?_ | ((first | refine gif_ways (fun h => ?_) (fun h => ?_) | refine cif_ways (fun h => ?_) (fun h => ?_)) <;> (try simp only [sxn] at h) <;> (try (exfalso; omega)))) <;> (try (refine wS ?_)))))
  refine vloop (fun n tm hp nx => ∃ k : Nat, n = l.length - k ∧ k ≤ l.length ∧ tm 0 = .sl (partsC l) ∧ tm 1 = .fn 67 [.rp [.ex (.int .i64 kd)] 0] ∧ tm 7 = .ex (.int .i64 l.length) ∧ tm 8 = .ex (.int .i64 k) ∧ Hid (∀ (i : Nat) y, i < k → l[i]? = some y → isK kd y = false)) l.length ⟨0, rfl, Nat.zero_le _, by exact byS, by exact byS, by exact byS, by exact byS, Lib.hid fun i y hi => absurd hi (Nat.not_lt_zero _)⟩ ?_
  rintro n tm hp nx ⟨k, hn, hk, g0, g1, g7, g8, hH⟩
  by_cases hlt : k < l.length
  · have e0 : l[k]? = some l[k] := List.getElem?_eq_getElem hlt
    generalize l[k] = x at e0
    have hc := take1_con x kd
    have q4 := parts_get e0
    cases hx : isK kd x with
    | true =>
      have hr : idxB (isK kd) l = k := idxB_at e0 hH.out hx
      rw [show decide (x.1 = kd) = true from hx] at hc
      clear hx e0
      (repeat' (first | exact trivial | refine stq ?_ | (refine awp_ret ?_; simp only [then_ret, block_ret, end_ret]) | ((first | refine cv (hc) ?_ | refine stp ?_ | refine nqif_ways (fun h => ?_) ?_ | ((first | refine gif_ways (fun h => ?_) (fun h => ?_) | refine cif_ways (fun h => ?_) (fun h => ?_)) <;> (try simp only [sxn] at h) <;> (try (exfalso; omega)))) <;> (try (refine wS ?_)))))
      all_goals simp only [sxd, z0, p0, Nat.reduceEqDiff, ↓reduceIte, Tryz.f66, *]
    | false =>
      have n1 := Lib.hid (upto e0 hH.out hx)
      rw [show decide (x.1 = kd) = false from hx] at hc
      clear hx e0
      (repeat' (first | exact trivial | refine stq ?_ | (refine awp_ret ?_; simp only [then_ret, block_ret, end_ret]) | ((first | refine cv (hc) ?_ | refine stp ?_ | refine nqif_ways (fun h => ?_) ?_ | ((first | refine gif_ways (fun h => ?_) (fun h => ?_) | refine cif_ways (fun h => ?_) (fun h => ?_)) <;> (try simp only [sxn] at h) <;> (try (exfalso; omega)))) <;> (try (refine wS ?_)))))
      exact kround_i (l.length - (k + 1)) (by omega) ⟨k + 1, rfl, by omega, by exact byS, by exact byS, by exact byS, by exact byS, n1⟩
  · have hr : idxB (isK kd) l = -1 := idxB_end (fun q y hy => hH.out q y (by have := (List.getElem?_eq_some_iff.1 hy).1; omega) hy)
    (repeat' (first | exact trivial | refine stq ?_ | (refine awp_ret ?_; simp only [then_ret, block_ret, end_ret]) | ((first | refine stp ?_ | refine nqif_ways (fun h => ?_) ?_ | ((first | refine gif_ways (fun h => ?_) (fun h => ?_) | refine cif_ways (fun h => ?_) (fun h => ?_)) <;> (try simp only [sxn] at h) <;> (try (exfalso; omega)))) <;> (try (refine wS ?_)))))
    all_goals simp only [sxd, z0, p0, Nat.reduceEqDiff, ↓reduceIte, Tryz.f66, *]
theorem first_con (x : AV) (y : AV) (p : Int × Int) (l : List (Int × Int)) (hl : l.length ≤ 10) : Con Tryz.prog CtxP 25 [.rp [x, .sl (partsC (p :: l)), y] 0] (.val (.ex (.int .i64 p.1))) := by
  have q1 := parts_len (p :: l)
  have q2 : (partsC (p :: l))[0]? = some [.ex (.int .i64 p.1), .ex (.int .i64 p.2)] := rfl
  have q3 : (p :: l).length = l.length + 1 := rfl
  generalize p :: l = L at *
  have q5 : ¬ (L.length : Int) = 0 := by omega
  refine con_val base Tryz.func25 rfl rfl (by kernel_rfl) (Nat.le_of_ble_eq_true rfl) ?_
  rw [init_eq]
  (repeat' (first | exact trivial | refine stq ?_ | (refine awp_ret ?_; simp only [then_ret, block_ret, end_ret]) | ((first | refine stp ?_ | refine nqif_ways (fun h => ?_) ?_ | ((first | refine gif_ways (fun h => ?_) (fun h => ?_) | refine cif_ways (fun h => ?_) (fun h => ?_)) <;> (try simp only [sxn] at h) <;> (try (exfalso; omega)))) <;> (try (refine wS ?_)))))
  all_goals simp only [sxd, z0, p0, Nat.reduceEqDiff, ↓reduceIte, Tryz.f25, *]
theorem take_new {hp : Nat → Option Row1} {nx b k : Nat} {left n kd : Int} {owed : List (Int × Int)} (hb : hp b = some ⟨60, [[.ex (.int .i64 left), .sl (partsC owed), .ex (.slice none 0 0)]], true⟩) (hn : b < nx)
    (hi : idxB (isK kd) owed = k) (e : owed[k]? = some (kd, n)) (hl : owed.length ≤ 10) (n0 : 0 < n) (n1 : n ≤ left) (n2 : left ≤ 1000000000000000) :
    ∃ (H : Nat → Option Row1) (N r : Nat), ConI Tryz.prog CtxP 26 [.pt b 0 0, .ex (.int .i64 kd)] hp nx (fun u h m => u = .ex (.int .i64 n) ∧ h = H ∧ m = N) ∧
      (nx ≤ r ∧ r < N) ∧ H r = some ⟨64, [[.ex (.int .i64 kd), .ex (.int .i64 n)]], true⟩ ∧ H b = some ⟨60, [[.ex (.int .i64 (left - n)), .sl (partsC owed), .own r]], true⟩ ∧ ∀ j, j < nx → j ≠ b → H j = hp j := by
  have a1 := IndexT_con owed kd hl
  rw [hi] at a1
  have q4 := parts_get e
  have q1 := parts_len owed
  have hlt : k < owed.length := (List.getElem?_eq_some_iff.1 e).1
  have hk0 : ¬ (k : Int) < 0 := by omega
  have hl0 : ¬ left = 0 := by omega
  have hm : (if n < left then n else left) = n := by split <;> omega
  have hbn : ¬ b = nx := by omega
  have hbn2 : ¬ nx = b := by omega
  clear hi e
  apply Exists.intro
  apply Exists.intro
  refine ⟨nx + 50, ?_, ?_⟩
  · refine con_inl base Tryz.func26 rfl rfl (by kernel_rfl) (Nat.le_of_ble_eq_true rfl) ?_
    show awp Tryz.prog CtxP _ _ ⟨tmI [.pt b 0 0, .ex (.int .i64 kd)], hp, nx⟩
    (repeat' (first | exact trivial | refine stq ?_ | (refine awp_ret ?_; simp only [then_ret, block_ret, end_ret]) | ((first | refine cv (a1) ?_ | refine stp ?_ | refine nqif_ways (fun h => ?_) ?_ | ((first | refine gif_ways (fun h => ?_) (fun h => ?_) | refine cif_ways (fun h => ?_) (fun h => ?_)) <;> (try simp only [sxn] at h) <;> (try (exfalso; omega)))) <;> (try (refine wS ?_)))))
    all_goals (unfold aretI; exact ⟨rfl, rfl, rfl⟩)
  · refine ⟨⟨by omega, by omega⟩, by exact byQ, by exact byQ, fun j hj hjb => ?_⟩
    repeat rw [upd_ne _ _ (by omega)]
end Go.Proofs.YtcoflmckbcnlpaaGreatDoor