/-
  What a payment is used for, walked: a part behind another one, and none. Conditions: those that each theorem states. More of the kind.
-/
import Derived.Test.YtcoflmckbcnlpaaGreatDoorLG
import Derived.Test.YtcoflmckbcnlpaaGreatDoorLF
namespace Go.Proofs.YtcoflmckbcnlpaaGreatDoor
open Go.RowKit
set_option maxRecDepth 100000
set_option linter.unusedSimpArgs false
noncomputable def take6_ops : Array Oper := ((Tryz.f26.body.bind (regOf 6)).getD #[])
noncomputable def take6_vs (b r nx : Nat) (kd n : Int) : Nat → AV := fun i =>
  [.pt b 0 0, .pt b 0 0, .pt b 0 0, .pt b 0 2, .own r, .ex (.int .i64 kd), .ex (.int .i64 n), .agg [.ex (.int .i64 kd), .ex (.int .i64 n)], .own (nx + 8), .own (nx + 9), .pt b 0 0, .pt b 0 2, .junk].getD i .und
set_option maxHeartbeats 4000000 in
theorem take6 {C : World → Prop} (Bs : Base Tryz.prog C) {tm : Nat → AV} {hp : Nat → Option Row1} {nx b r q : Nat} {kd n : Int} {x y : AV} {ps : List (List AV)} {Q : Exit → AS → Prop} (t0 : tm 0 = .pt b 0 0) (t3 : tm 3 = .pt q 0 0) (t6 : tm 6 = .ex (.int .i64 n)) (hb : hp b = some ⟨60, [[x, y, .own r]], true⟩) (hqq : hp q = some ⟨3, [[.ex (.int .i64 kd)]], true⟩) (hr : hp r = some ⟨64, ps, true⟩) (hl : ps.length ≤ 1000)
    (b1 : b < nx) (q1 : q < nx) (r1 : r < nx) (br : b ≠ r) (hq : ∀ tm' : Nat → AV, tm' 6 = tm 6 → Q .normal ⟨tm', upd (upd (upd (upd hp (nx + 8) (some ⟨64, [[.ex (.int .i64 kd), .ex (.int .i64 n)]], true⟩)) r none) (nx + 9) (some ⟨64, ps ++ [[.ex (.int .i64 kd), .ex (.int .i64 n)]], true⟩)) b (some ⟨60, [[x, y, .own (nx + 9)]], true⟩), nx + 13⟩) :
    awp Tryz.prog C (.region 6 take6_ops true) Q ⟨tm, hp, nx⟩ := by
  have hO : Ord take6_ops take6_ops.size := ord_of (by kernel_rfl)
  refine region_chain Bs (vs := (take6_vs b r nx kd n)) (ch := [8, 9, 12]) (H := fun c => bif Nat.beq c 0 then hp else bif Nat.beq c 1 then upd hp (nx + 8) (some ⟨64, [[.ex (.int .i64 kd), .ex (.int .i64 n)]], true⟩) else bif Nat.beq c 2 then upd (upd (upd hp (nx + 8) (some ⟨64, [[.ex (.int .i64 kd), .ex (.int .i64 n)]], true⟩)) r none) (nx + 9) (some ⟨64, ps ++ [[.ex (.int .i64 kd), .ex (.int .i64 n)]], true⟩) else upd (upd (upd (upd hp (nx + 8) (some ⟨64, [[.ex (.int .i64 kd), .ex (.int .i64 n)]], true⟩)) r none) (nx + 9) (some ⟨64, ps ++ [[.ex (.int .i64 kd), .ex (.int .i64 n)]], true⟩)) b (some ⟨60, [[x, y, .own (nx + 9)]], true⟩)) (B := fun c => nx) hO ?_ ?_
  · refine ⟨rfl, rfl, ?_, ?_, by simp, ?_, ?_, ?_, ?_⟩
    · intro c hc
      have hc : c ≤ 3 := hc
      have : c = 0 ∨ c = 1 ∨ c = 2 ∨ c = 3 := by omega
      rcases this with rfl | rfl | rfl | rfl <;> first | exact Nat.le_refl _ | exact Nat.le_refl _
    · intro h hh
      simp only [List.mem_cons, List.not_mem_nil, or_false] at hh
      rcases hh with rfl | rfl | rfl <;> exact Nat.le_of_ble_eq_true (by kernel_rfl)
    · have hms := masks_reach (ops := take6_ops) take6_ops.toList [] (fun j => by simp) (fun j i hb => by simp at hb)
      intro m h h' hm hm'
      have hlt : m + 1 < 3 := by have := (List.getElem?_eq_some_iff.1 hm').1; simpa using this
      have : m = 0 ∨ m = 1 := by omega
      rcases this with rfl | rfl
      · cases hm; cases hm'; exact hms 9 8 (by decide +kernel)
      · cases hm; cases hm'; exact hms 12 9 (by decide +kernel)
    · intro o ho
      have : (take6_ops.toList.all fun o => o.guard.isNone) = true := by kernel_rfl
      have := List.all_eq_true.1 this o ho
      simpa using this
    · intro m h o hm ho
      have hlt : m < 3 := by have := (List.getElem?_eq_some_iff.1 hm).1; simpa using this
      have : m = 0 ∨ m = 1 ∨ m = 2 := by omega
      rcases this with rfl | rfl | rfl
      · cases (show some 8 = some h from hm)
        cases ho
        have e50 : tmAt take6_ops take6_ops.size (take6_vs b r nx kd n) tm (fun q => decide (q < 8)) 50 = .agg [.ex (.int .i64 kd), .ex (.int .i64 n)] := by kernel_rfl
        generalize hT : tmAt take6_ops take6_ops.size (take6_vs b r nx kd n) tm (fun q => decide (q < 8)) = T at *
        refine .inl ⟨.new ⟨64, [[.ex (.int .i64 kd), .ex (.int .i64 n)]], true⟩, ?_, rfl, rfl⟩
        show aval Tryz.prog C ((nx) + 8) (.buildSlice 40 1 #[(0, .tmp 50)]) _ (AS.ev ⟨T, fun _ => none, 0⟩) (hp) _
        refine vbuildS (by simp only [tyb, elemOf_s]) (by simp only [tyb, sxb, Value.oneCell', Nat.reduceAdd, Nat.reduceMul, Nat.reduceLeDiff, Nat.reduceLT]) ?_
        simp (disch := omega) only [sx, Value.oneCell', ↓reduceIte, Nat.reduceAdd, Nat.reduceMul, Nat.reduceEqDiff, Nat.reduceLT, Nat.reduceLeDiff, Int.reduceToNat, Int.reduceEq, Int.reduceLT, Int.reduceLE, Int.reduceNe, e50, hb, hqq, hr, br]
        first | exact ⟨rfl, rfl⟩ | trivial | rfl | exact ⟨by omega, rfl⟩ | exact ⟨by omega, rfl, rfl⟩ | (trace_state; simp)
      · cases (show some 9 = some h from hm)
        cases ho
        have e47 : tmAt take6_ops take6_ops.size (take6_vs b r nx kd n) tm (fun q => decide (q < 9)) 47 = .own r := by kernel_rfl
        have e51 : tmAt take6_ops take6_ops.size (take6_vs b r nx kd n) tm (fun q => decide (q < 9)) 51 = .own (nx + 8) := by kernel_rfl
        generalize hT : tmAt take6_ops take6_ops.size (take6_vs b r nx kd n) tm (fun q => decide (q < 9)) = T at *
        refine .inl ⟨.grow r ⟨64, ps ++ [[.ex (.int .i64 kd), .ex (.int .i64 n)]], true⟩, ?_, rfl, rfl⟩
        show aval Tryz.prog C ((nx) + 9) (.call ⟨.builtin .append, #[.tmp 47, .tmp 51], #[40, 40]⟩) _ (AS.ev ⟨T, fun _ => none, 0⟩) (upd hp (nx + 8) (some ⟨64, [[.ex (.int .i64 kd), .ex (.int .i64 n)]], true⟩)) _
        simp (disch := omega) only [sx, Value.oneCell', ↓reduceIte, Nat.reduceAdd, Nat.reduceMul, Nat.reduceEqDiff, Nat.reduceLT, Nat.reduceLeDiff, Int.reduceToNat, Int.reduceEq, Int.reduceLT, Int.reduceLE, Int.reduceNe, e47, e51, hb, hqq, hr, br]
        first | exact ⟨rfl, rfl⟩ | trivial | rfl | exact ⟨by omega, rfl⟩ | exact ⟨by omega, rfl, rfl⟩ | (trace_state; simp)
      · cases (show some 12 = some h from hm)
        cases ho
        have e54 : tmAt take6_ops take6_ops.size (take6_vs b r nx kd n) tm (fun q => decide (q < 12)) 54 = .pt b 0 2 := by kernel_rfl
        have e52 : tmAt take6_ops take6_ops.size (take6_vs b r nx kd n) tm (fun q => decide (q < 12)) 52 = .own (nx + 9) := by kernel_rfl
        generalize hT : tmAt take6_ops take6_ops.size (take6_vs b r nx kd n) tm (fun q => decide (q < 12)) = T at *
        refine .inl ⟨.set b ⟨60, [[x, y, .own (nx + 9)]], true⟩, ?_, rfl, rfl⟩
        show aval Tryz.prog C ((nx) + 12) (.store 40 (.tmp 54) (.tmp 52)) _ (AS.ev ⟨T, fun _ => none, 0⟩) (upd (upd (upd hp (nx + 8) (some ⟨64, [[.ex (.int .i64 kd), .ex (.int .i64 n)]], true⟩)) r none) (nx + 9) (some ⟨64, ps ++ [[.ex (.int .i64 kd), .ex (.int .i64 n)]], true⟩)) _
        simp (disch := omega) only [sx, Value.oneCell', ↓reduceIte, Nat.reduceAdd, Nat.reduceMul, Nat.reduceEqDiff, Nat.reduceLT, Nat.reduceLeDiff, Int.reduceToNat, Int.reduceEq, Int.reduceLT, Int.reduceLE, Int.reduceNe, e54, e52, hb, hqq, hr, br]
        first | exact ⟨rfl, rfl⟩ | trivial | rfl | exact ⟨by omega, rfl⟩ | exact ⟨by omega, rfl, rfl⟩ | (trace_state; simp)
    · have hms := masks_reach (ops := take6_ops) take6_ops.toList [] (fun j => by simp) (fun j i hb => by simp at hb)
      intro i o ho hni c hc hcc
      have hc : c ≤ 3 := hc
      have hi : i < 13 := (Array.getElem?_eq_some_iff.1 ho).1
      have hi' : i = 0 ∨ i = 1 ∨ i = 2 ∨ i = 3 ∨ i = 4 ∨ i = 5 ∨ i = 6 ∨ i = 7 ∨ i = 10 ∨ i = 11 := by
        have : i ≠ 8 ∧ i ≠ 9 ∧ i ≠ 12 := by simpa using hni
        omega
      clear hi
      rcases hi' with rfl | rfl | rfl | rfl | rfl | rfl | rfl | rfl | rfl | rfl
      · cases ho
        have l2 := (hcc 2 12 rfl).2 (hms 12 0 (by decide +kernel))
        have e0 : tmAt take6_ops take6_ops.size (take6_vs b r nx kd n) tm (fun q => decide (q < 0)) 0 = .pt b 0 0 := by rw [← t0]; kernel_rfl
        generalize hT : tmAt take6_ops take6_ops.size (take6_vs b r nx kd n) tm (fun q => decide (q < 0)) = T at *
        have hcs : c = 0 ∨ c = 1 ∨ c = 2 := by omega
        clear hcc hc l2
        rcases hcs with rfl | rfl | rfl
        · refine .inl ?_
          show aval Tryz.prog C ((nx) + 0) (.move (.tmp 0)) _ (AS.ev ⟨T, fun _ => none, 0⟩) (hp) _
          simp (disch := omega) only [sx, Value.oneCell', ↓reduceIte, Nat.reduceAdd, Nat.reduceMul, Nat.reduceEqDiff, Nat.reduceLT, Nat.reduceLeDiff, Int.reduceToNat, Int.reduceEq, Int.reduceLT, Int.reduceLE, Int.reduceNe, e0, hb, hqq, hr, br]
          first | exact ⟨rfl, .inl trivial⟩ | exact ⟨rfl, .inl rfl⟩ | exact ⟨trivial, .inl trivial⟩ | exact .inl trivial | exact .inl rfl | exact ⟨rfl, .inr rfl⟩ | trivial | simp
        · refine .inl ?_
          show aval Tryz.prog C ((nx) + 0) (.move (.tmp 0)) _ (AS.ev ⟨T, fun _ => none, 0⟩) (upd hp (nx + 8) (some ⟨64, [[.ex (.int .i64 kd), .ex (.int .i64 n)]], true⟩)) _
          simp (disch := omega) only [sx, Value.oneCell', ↓reduceIte, Nat.reduceAdd, Nat.reduceMul, Nat.reduceEqDiff, Nat.reduceLT, Nat.reduceLeDiff, Int.reduceToNat, Int.reduceEq, Int.reduceLT, Int.reduceLE, Int.reduceNe, e0, hb, hqq, hr, br]
          first | exact ⟨rfl, .inl trivial⟩ | exact ⟨rfl, .inl rfl⟩ | exact ⟨trivial, .inl trivial⟩ | exact .inl trivial | exact .inl rfl | exact ⟨rfl, .inr rfl⟩ | trivial | simp
        · refine .inl ?_
          show aval Tryz.prog C ((nx) + 0) (.move (.tmp 0)) _ (AS.ev ⟨T, fun _ => none, 0⟩) (upd (upd (upd hp (nx + 8) (some ⟨64, [[.ex (.int .i64 kd), .ex (.int .i64 n)]], true⟩)) r none) (nx + 9) (some ⟨64, ps ++ [[.ex (.int .i64 kd), .ex (.int .i64 n)]], true⟩)) _
          simp (disch := omega) only [sx, Value.oneCell', ↓reduceIte, Nat.reduceAdd, Nat.reduceMul, Nat.reduceEqDiff, Nat.reduceLT, Nat.reduceLeDiff, Int.reduceToNat, Int.reduceEq, Int.reduceLT, Int.reduceLE, Int.reduceNe, e0, hb, hqq, hr, br]
          first | exact ⟨rfl, .inl trivial⟩ | exact ⟨rfl, .inl rfl⟩ | exact ⟨trivial, .inl trivial⟩ | exact .inl trivial | exact .inl rfl | exact ⟨rfl, .inr rfl⟩ | trivial | simp
      · cases ho
        have l2 := (hcc 1 9 rfl).2 (hms 9 1 (by decide +kernel))
        have e0 : tmAt take6_ops take6_ops.size (take6_vs b r nx kd n) tm (fun q => decide (q < 1)) 0 = .pt b 0 0 := by rw [← t0]; kernel_rfl
        generalize hT : tmAt take6_ops take6_ops.size (take6_vs b r nx kd n) tm (fun q => decide (q < 1)) = T at *
        have hcs : c = 0 ∨ c = 1 := by omega
        clear hcc hc l2
        rcases hcs with rfl | rfl
        · refine .inl ?_
          show aval Tryz.prog C ((nx) + 1) (.move (.tmp 0)) _ (AS.ev ⟨T, fun _ => none, 0⟩) (hp) _
          simp (disch := omega) only [sx, Value.oneCell', ↓reduceIte, Nat.reduceAdd, Nat.reduceMul, Nat.reduceEqDiff, Nat.reduceLT, Nat.reduceLeDiff, Int.reduceToNat, Int.reduceEq, Int.reduceLT, Int.reduceLE, Int.reduceNe, e0, hb, hqq, hr, br]
          first | exact ⟨rfl, .inl trivial⟩ | exact ⟨rfl, .inl rfl⟩ | exact ⟨trivial, .inl trivial⟩ | exact .inl trivial | exact .inl rfl | exact ⟨rfl, .inr rfl⟩ | trivial | simp
        · refine .inl ?_
          show aval Tryz.prog C ((nx) + 1) (.move (.tmp 0)) _ (AS.ev ⟨T, fun _ => none, 0⟩) (upd hp (nx + 8) (some ⟨64, [[.ex (.int .i64 kd), .ex (.int .i64 n)]], true⟩)) _
          simp (disch := omega) only [sx, Value.oneCell', ↓reduceIte, Nat.reduceAdd, Nat.reduceMul, Nat.reduceEqDiff, Nat.reduceLT, Nat.reduceLeDiff, Int.reduceToNat, Int.reduceEq, Int.reduceLT, Int.reduceLE, Int.reduceNe, e0, hb, hqq, hr, br]
          first | exact ⟨rfl, .inl trivial⟩ | exact ⟨rfl, .inl rfl⟩ | exact ⟨trivial, .inl trivial⟩ | exact .inl trivial | exact .inl rfl | exact ⟨rfl, .inr rfl⟩ | trivial | simp
      · cases ho
        have l2 := (hcc 1 9 rfl).2 (hms 9 2 (by decide +kernel))
        have e44 : tmAt take6_ops take6_ops.size (take6_vs b r nx kd n) tm (fun q => decide (q < 2)) 44 = .pt b 0 0 := by kernel_rfl
        generalize hT : tmAt take6_ops take6_ops.size (take6_vs b r nx kd n) tm (fun q => decide (q < 2)) = T at *
        have hcs : c = 0 ∨ c = 1 := by omega
        clear hcc hc l2
        rcases hcs with rfl | rfl
        · refine .inl ?_
          show aval Tryz.prog C ((nx) + 2) (.nilCheck (.tmp 44)) _ (AS.ev ⟨T, fun _ => none, 0⟩) (hp) _
          simp (disch := omega) only [sx, Value.oneCell', ↓reduceIte, Nat.reduceAdd, Nat.reduceMul, Nat.reduceEqDiff, Nat.reduceLT, Nat.reduceLeDiff, Int.reduceToNat, Int.reduceEq, Int.reduceLT, Int.reduceLE, Int.reduceNe, e44, hb, hqq, hr, br]
          first | exact ⟨rfl, .inl trivial⟩ | exact ⟨rfl, .inl rfl⟩ | exact ⟨trivial, .inl trivial⟩ | exact .inl trivial | exact .inl rfl | exact ⟨rfl, .inr rfl⟩ | trivial | simp
        · refine .inl ?_
          show aval Tryz.prog C ((nx) + 2) (.nilCheck (.tmp 44)) _ (AS.ev ⟨T, fun _ => none, 0⟩) (upd hp (nx + 8) (some ⟨64, [[.ex (.int .i64 kd), .ex (.int .i64 n)]], true⟩)) _
          simp (disch := omega) only [sx, Value.oneCell', ↓reduceIte, Nat.reduceAdd, Nat.reduceMul, Nat.reduceEqDiff, Nat.reduceLT, Nat.reduceLeDiff, Int.reduceToNat, Int.reduceEq, Int.reduceLT, Int.reduceLE, Int.reduceNe, e44, hb, hqq, hr, br]
          first | exact ⟨rfl, .inl trivial⟩ | exact ⟨rfl, .inl rfl⟩ | exact ⟨trivial, .inl trivial⟩ | exact .inl trivial | exact .inl rfl | exact ⟨rfl, .inr rfl⟩ | trivial | simp
      · cases ho
        have l2 := (hcc 1 9 rfl).2 (hms 9 3 (by decide +kernel))
        have e45 : tmAt take6_ops take6_ops.size (take6_vs b r nx kd n) tm (fun q => decide (q < 3)) 45 = .pt b 0 0 := by kernel_rfl
        generalize hT : tmAt take6_ops take6_ops.size (take6_vs b r nx kd n) tm (fun q => decide (q < 3)) = T at *
        have hcs : c = 0 ∨ c = 1 := by omega
        clear hcc hc l2
        rcases hcs with rfl | rfl
        · refine .inl ?_
          show aval Tryz.prog C ((nx) + 3) (.fieldAddr 60 (.tmp 45) 2) _ (AS.ev ⟨T, fun _ => none, 0⟩) (hp) _
          simp (disch := omega) only [sx, Value.oneCell', ↓reduceIte, Nat.reduceAdd, Nat.reduceMul, Nat.reduceEqDiff, Nat.reduceLT, Nat.reduceLeDiff, Int.reduceToNat, Int.reduceEq, Int.reduceLT, Int.reduceLE, Int.reduceNe, e45, hb, hqq, hr, br]
          first | exact ⟨rfl, .inl trivial⟩ | exact ⟨rfl, .inl rfl⟩ | exact ⟨trivial, .inl trivial⟩ | exact .inl trivial | exact .inl rfl | exact ⟨rfl, .inr rfl⟩ | trivial | simp
        · refine .inl ?_
          show aval Tryz.prog C ((nx) + 3) (.fieldAddr 60 (.tmp 45) 2) _ (AS.ev ⟨T, fun _ => none, 0⟩) (upd hp (nx + 8) (some ⟨64, [[.ex (.int .i64 kd), .ex (.int .i64 n)]], true⟩)) _
          simp (disch := omega) only [sx, Value.oneCell', ↓reduceIte, Nat.reduceAdd, Nat.reduceMul, Nat.reduceEqDiff, Nat.reduceLT, Nat.reduceLeDiff, Int.reduceToNat, Int.reduceEq, Int.reduceLT, Int.reduceLE, Int.reduceNe, e45, hb, hqq, hr, br]
          first | exact ⟨rfl, .inl trivial⟩ | exact ⟨rfl, .inl rfl⟩ | exact ⟨trivial, .inl trivial⟩ | exact .inl trivial | exact .inl rfl | exact ⟨rfl, .inr rfl⟩ | trivial | simp
      · cases ho
        have l2 := (hcc 1 9 rfl).2 (hms 9 4 (by decide +kernel))
        have e46 : tmAt take6_ops take6_ops.size (take6_vs b r nx kd n) tm (fun q => decide (q < 4)) 46 = .pt b 0 2 := by kernel_rfl
        generalize hT : tmAt take6_ops take6_ops.size (take6_vs b r nx kd n) tm (fun q => decide (q < 4)) = T at *
        have hcs : c = 0 ∨ c = 1 := by omega
        clear hcc hc l2
        rcases hcs with rfl | rfl
        · refine .inl ?_
          show aval Tryz.prog C ((nx) + 4) (.load 40 (.tmp 46)) _ (AS.ev ⟨T, fun _ => none, 0⟩) (hp) _
          simp (disch := omega) only [sx, Value.oneCell', ↓reduceIte, Nat.reduceAdd, Nat.reduceMul, Nat.reduceEqDiff, Nat.reduceLT, Nat.reduceLeDiff, Int.reduceToNat, Int.reduceEq, Int.reduceLT, Int.reduceLE, Int.reduceNe, e46, hb, hqq, hr, br]
          first | exact ⟨rfl, .inl trivial⟩ | exact ⟨rfl, .inl rfl⟩ | exact ⟨trivial, .inl trivial⟩ | exact .inl trivial | exact .inl rfl | exact ⟨rfl, .inr rfl⟩ | trivial | simp
        · refine .inl ?_
          show aval Tryz.prog C ((nx) + 4) (.load 40 (.tmp 46)) _ (AS.ev ⟨T, fun _ => none, 0⟩) (upd hp (nx + 8) (some ⟨64, [[.ex (.int .i64 kd), .ex (.int .i64 n)]], true⟩)) _
          simp (disch := omega) only [sx, Value.oneCell', ↓reduceIte, Nat.reduceAdd, Nat.reduceMul, Nat.reduceEqDiff, Nat.reduceLT, Nat.reduceLeDiff, Int.reduceToNat, Int.reduceEq, Int.reduceLT, Int.reduceLE, Int.reduceNe, e46, hb, hqq, hr, br]
          first | exact ⟨rfl, .inl trivial⟩ | exact ⟨rfl, .inl rfl⟩ | exact ⟨trivial, .inl trivial⟩ | exact .inl trivial | exact .inl rfl | exact ⟨rfl, .inr rfl⟩ | trivial | simp
      · cases ho
        have l2 := (hcc 0 8 rfl).2 (hms 8 5 (by decide +kernel))
        have e3 : tmAt take6_ops take6_ops.size (take6_vs b r nx kd n) tm (fun q => decide (q < 5)) 3 = .pt q 0 0 := by rw [← t3]; kernel_rfl
        generalize hT : tmAt take6_ops take6_ops.size (take6_vs b r nx kd n) tm (fun q => decide (q < 5)) = T at *
        have hcs : c = 0 := by omega
        clear hcc hc l2
        rcases hcs with rfl
        · refine .inl ?_
          show aval Tryz.prog C ((nx) + 5) (.load 3 (.tmp 3)) _ (AS.ev ⟨T, fun _ => none, 0⟩) (hp) _
          simp (disch := omega) only [sx, Value.oneCell', ↓reduceIte, Nat.reduceAdd, Nat.reduceMul, Nat.reduceEqDiff, Nat.reduceLT, Nat.reduceLeDiff, Int.reduceToNat, Int.reduceEq, Int.reduceLT, Int.reduceLE, Int.reduceNe, e3, hb, hqq, hr, br]
          first | exact ⟨rfl, .inl trivial⟩ | exact ⟨rfl, .inl rfl⟩ | exact ⟨trivial, .inl trivial⟩ | exact .inl trivial | exact .inl rfl | exact ⟨rfl, .inr rfl⟩ | trivial | simp
      · cases ho
        have l2 := (hcc 0 8 rfl).2 (hms 8 6 (by decide +kernel))
        have e6 : tmAt take6_ops take6_ops.size (take6_vs b r nx kd n) tm (fun q => decide (q < 6)) 6 = .ex (.int .i64 n) := by rw [← t6]; kernel_rfl
        generalize hT : tmAt take6_ops take6_ops.size (take6_vs b r nx kd n) tm (fun q => decide (q < 6)) = T at *
        have hcs : c = 0 := by omega
        clear hcc hc l2
        rcases hcs with rfl
        · refine .inl ?_
          show aval Tryz.prog C ((nx) + 6) (.move (.tmp 6)) _ (AS.ev ⟨T, fun _ => none, 0⟩) (hp) _
          simp (disch := omega) only [sx, Value.oneCell', ↓reduceIte, Nat.reduceAdd, Nat.reduceMul, Nat.reduceEqDiff, Nat.reduceLT, Nat.reduceLeDiff, Int.reduceToNat, Int.reduceEq, Int.reduceLT, Int.reduceLE, Int.reduceNe, e6, hb, hqq, hr, br]
          first | exact ⟨rfl, .inl trivial⟩ | exact ⟨rfl, .inl rfl⟩ | exact ⟨trivial, .inl trivial⟩ | exact .inl trivial | exact .inl rfl | exact ⟨rfl, .inr rfl⟩ | trivial | simp
      · cases ho
        have l2 := (hcc 0 8 rfl).2 (hms 8 7 (by decide +kernel))
        have e48 : tmAt take6_ops take6_ops.size (take6_vs b r nx kd n) tm (fun q => decide (q < 7)) 48 = .ex (.int .i64 kd) := by kernel_rfl
        have e49 : tmAt take6_ops take6_ops.size (take6_vs b r nx kd n) tm (fun q => decide (q < 7)) 49 = .ex (.int .i64 n) := by kernel_rfl
        generalize hT : tmAt take6_ops take6_ops.size (take6_vs b r nx kd n) tm (fun q => decide (q < 7)) = T at *
        have hcs : c = 0 := by omega
        clear hcc hc l2
        rcases hcs with rfl
        · refine .inl ?_
          show aval Tryz.prog C ((nx) + 7) (.build 64 #[(0, .tmp 48), (1, .tmp 49)]) _ (AS.ev ⟨T, fun _ => none, 0⟩) (hp) _
          simp (disch := omega) only [sx, Value.oneCell', ↓reduceIte, Nat.reduceAdd, Nat.reduceMul, Nat.reduceEqDiff, Nat.reduceLT, Nat.reduceLeDiff, Int.reduceToNat, Int.reduceEq, Int.reduceLT, Int.reduceLE, Int.reduceNe, e48, e49, hb, hqq, hr, br]
          first | exact ⟨rfl, .inl trivial⟩ | exact ⟨rfl, .inl rfl⟩ | exact ⟨trivial, .inl trivial⟩ | exact .inl trivial | exact .inl rfl | exact ⟨rfl, .inr rfl⟩ | trivial | simp
      · cases ho
        have l1 := (hcc 1 9 rfl).1 (hms 10 9 (by decide +kernel))
        have l2 := (hcc 2 12 rfl).2 (hms 12 10 (by decide +kernel))
        have e43 : tmAt take6_ops take6_ops.size (take6_vs b r nx kd n) tm (fun q => decide (q < 10)) 43 = .pt b 0 0 := by kernel_rfl
        generalize hT : tmAt take6_ops take6_ops.size (take6_vs b r nx kd n) tm (fun q => decide (q < 10)) = T at *
        have hcs : c = 2 := by omega
        clear hcc hc l1 l2
        rcases hcs with rfl
        · refine .inl ?_
          show aval Tryz.prog C ((nx) + 10) (.nilCheck (.tmp 43)) _ (AS.ev ⟨T, fun _ => none, 0⟩) (upd (upd (upd hp (nx + 8) (some ⟨64, [[.ex (.int .i64 kd), .ex (.int .i64 n)]], true⟩)) r none) (nx + 9) (some ⟨64, ps ++ [[.ex (.int .i64 kd), .ex (.int .i64 n)]], true⟩)) _
          simp (disch := omega) only [sx, Value.oneCell', ↓reduceIte, Nat.reduceAdd, Nat.reduceMul, Nat.reduceEqDiff, Nat.reduceLT, Nat.reduceLeDiff, Int.reduceToNat, Int.reduceEq, Int.reduceLT, Int.reduceLE, Int.reduceNe, e43, hb, hqq, hr, br]
          first | exact ⟨rfl, .inl trivial⟩ | exact ⟨rfl, .inl rfl⟩ | exact ⟨trivial, .inl trivial⟩ | exact .inl trivial | exact .inl rfl | exact ⟨rfl, .inr rfl⟩ | trivial | simp
      · cases ho
        have l1 := (hcc 1 9 rfl).1 (hms 11 9 (by decide +kernel))
        have l2 := (hcc 2 12 rfl).2 (hms 12 11 (by decide +kernel))
        have e53 : tmAt take6_ops take6_ops.size (take6_vs b r nx kd n) tm (fun q => decide (q < 11)) 53 = .pt b 0 0 := by kernel_rfl
        generalize hT : tmAt take6_ops take6_ops.size (take6_vs b r nx kd n) tm (fun q => decide (q < 11)) = T at *
        have hcs : c = 2 := by omega
        clear hcc hc l1 l2
        rcases hcs with rfl
        · refine .inl ?_
          show aval Tryz.prog C ((nx) + 11) (.fieldAddr 60 (.tmp 53) 2) _ (AS.ev ⟨T, fun _ => none, 0⟩) (upd (upd (upd hp (nx + 8) (some ⟨64, [[.ex (.int .i64 kd), .ex (.int .i64 n)]], true⟩)) r none) (nx + 9) (some ⟨64, ps ++ [[.ex (.int .i64 kd), .ex (.int .i64 n)]], true⟩)) _
          simp (disch := omega) only [sx, Value.oneCell', ↓reduceIte, Nat.reduceAdd, Nat.reduceMul, Nat.reduceEqDiff, Nat.reduceLT, Nat.reduceLeDiff, Int.reduceToNat, Int.reduceEq, Int.reduceLT, Int.reduceLE, Int.reduceNe, e53, hb, hqq, hr, br]
          first | exact ⟨rfl, .inl trivial⟩ | exact ⟨rfl, .inl rfl⟩ | exact ⟨trivial, .inl trivial⟩ | exact .inl trivial | exact .inl rfl | exact ⟨rfl, .inr rfl⟩ | trivial | simp
  · refine hq _ ?_
    · kernel_rfl
theorem take_next {hp : Nat → Option Row1} {nx b k r : Nat} {left n kd : Int} {owed ps : List (Int × Int)} (hb : hp b = some ⟨60, [[.ex (.int .i64 left), .sl (partsC owed), .own r]], true⟩) (hr : hp r = some ⟨64, partsC ps, true⟩) (hn : b < nx) (hrn : r < nx) (hbr : b ≠ r) (hps : ps.length ≤ 10)
    (hi : idxB (isK kd) owed = k) (e : owed[k]? = some (kd, n)) (hl : owed.length ≤ 10) (n0 : 0 < n) (n1 : n ≤ left) (n2 : left ≤ 1000000000000000) :
    ∃ (H : Nat → Option Row1) (N s : Nat), ConI Tryz.prog CtxP 26 [.pt b 0 0, .ex (.int .i64 kd)] hp nx (fun u h m => u = .ex (.int .i64 n) ∧ h = H ∧ m = N) ∧
      (nx ≤ s ∧ s < N) ∧ H s = some ⟨64, partsC ps ++ [[.ex (.int .i64 kd), .ex (.int .i64 n)]], true⟩ ∧ H b = some ⟨60, [[.ex (.int .i64 (left - n)), .sl (partsC owed), .own s]], true⟩ ∧ ∀ j, j < nx → j ≠ b → j ≠ r → H j = hp j := by
  have a1 := IndexT_con owed kd hl
  rw [hi] at a1
  have q4 := parts_get e
  have q1 := parts_len owed
  have hlt : k < owed.length := (List.getElem?_eq_some_iff.1 e).1
  have hk0 : ¬ (k : Int) < 0 := by omega
  have hl0 : ¬ left = 0 := by omega
  have hm : (if n < left then n else left) = n := by split <;> omega
  have hbn : ¬ b = nx := by omega
  have hbn2 : ¬ nx = b := by omega
  have hrn1 : ¬ r = nx := by omega
  have hbr2 : ¬ r = b := fun h => hbr h.symm
  have hpl := parts_len ps
  clear hi e
  apply Exists.intro
  apply Exists.intro
  refine ⟨nx + 50, ?_, ?_⟩
  · refine con_inl base Tryz.func26 rfl rfl (by kernel_rfl) (Nat.le_of_ble_eq_true rfl) ?_
    show awp Tryz.prog CtxP _ _ ⟨tmI [.pt b 0 0, .ex (.int .i64 kd)], hp, nx⟩
    (repeat' (first | exact trivial | refine stq ?_ | (refine awp_ret ?_; simp only [then_ret, block_ret, end_ret]) | ((first | refine cv (a1) ?_ | refine stn ?_ | refine nqif_ways (fun h => ?_) ?_ | ((first | refine gif_ways (fun h => ?_) (fun h => ?_) | refine cif_ways (fun h => ?_) (fun h => ?_)) <;> (try simp only [sxn] at h) <;> (try (exfalso; omega)))) <;> (try (refine wS ?_)))))
    refine vdraws (by kernel_rfl) ?_
    (refine wS ?_)
    (repeat' (first | exact trivial | refine stq ?_ | (refine awp_ret ?_; simp only [then_ret, block_ret, end_ret]) | ((first | refine cv (a1) ?_ | refine stn ?_ | refine nqif_ways (fun h => ?_) ?_ | ((first | refine gif_ways (fun h => ?_) (fun h => ?_) | refine cif_ways (fun h => ?_) (fun h => ?_)) <;> (try simp only [sxn] at h) <;> (try (exfalso; omega)))) <;> (try (refine wS ?_)))))
    refine (?_ : awp Tryz.prog CtxP (.region 6 take6_ops true) _ _)
    refine take6 base (b := b) (r := r) (q := nx) (kd := kd) (n := n) (ps := partsC ps) (by exact byQ) (by exact byQ) (by exact byQ) (by exact byQ) (by exact byQ) (by exact byQ) (by omega) (by omega) (by omega) (by omega) hbr ?_
    intro tm' e6
    have e7 : tm' 6 = .ex (.int .i64 n) := by rw [e6]; exact byQ
    show awp Tryz.prog CtxP _ _ _
    (repeat' (first | exact trivial | refine stq ?_ | (refine awp_ret ?_; simp only [then_ret, block_ret, end_ret]) | ((first | refine stp ?_ | refine nqif_ways (fun h => ?_) ?_ | ((first | refine gif_ways (fun h => ?_) (fun h => ?_) | refine cif_ways (fun h => ?_) (fun h => ?_)) <;> (try simp only [sxn] at h) <;> (try (exfalso; omega)))) <;> (try (refine wS ?_)))))
    all_goals (unfold aretI; exact ⟨rfl, rfl, rfl⟩)
  · refine ⟨⟨by omega, by omega⟩, by exact byQ, by exact byQ, fun j hj hjb hjr => ?_⟩
    repeat rw [upd_ne _ _ (by omega)]
theorem take_none {hp : Nat → Option Row1} {nx b : Nat} {left kd : Int} {owed : List (Int × Int)} {y : AV} (hb : hp b = some ⟨60, [[.ex (.int .i64 left), .sl (partsC owed), y]], true⟩) (hn : b < nx)
    (hi : idxB (isK kd) owed = -1) (hl : owed.length ≤ 10) :
    ∃ (H : Nat → Option Row1) (N : Nat), ConI Tryz.prog CtxP 26 [.pt b 0 0, .ex (.int .i64 kd)] hp nx (fun u h m => u = .ex (.int .i64 0) ∧ h = H ∧ m = N) ∧ nx ≤ N ∧ ∀ j, j < nx → H j = hp j := by
  have a1 := IndexT_con owed kd hl
  rw [hi] at a1
  have q1 := parts_len owed
  have hbn : ¬ b = nx := by omega
  have hbn2 : ¬ nx = b := by omega
  clear hi
  apply Exists.intro
  apply Exists.intro
  refine ⟨?_, ?_⟩
  · refine con_inl base Tryz.func26 rfl rfl (by kernel_rfl) (Nat.le_of_ble_eq_true rfl) ?_
    show awp Tryz.prog CtxP _ _ ⟨tmI [.pt b 0 0, .ex (.int .i64 kd)], hp, nx⟩
    (repeat' (first | exact trivial | refine stq ?_ | (refine awp_ret ?_; simp only [then_ret, block_ret, end_ret]) | ((first | refine cv (a1) ?_ | refine stp ?_ | refine nqif_ways (fun h => ?_) ?_ | ((first | refine gif_ways (fun h => ?_) (fun h => ?_) | refine cif_ways (fun h => ?_) (fun h => ?_)) <;> (try simp only [sxn] at h) <;> (try (exfalso; omega)))) <;> (try (refine wS ?_)))))
    all_goals (unfold aretI; exact ⟨rfl, rfl, rfl⟩)
  · refine ⟨by omega, fun j hj => ?_⟩
    repeat rw [upd_ne _ _ (by omega)]
end Go.Proofs.YtcoflmckbcnlpaaGreatDoor
namespace Go.Proofs.YtcoflmckbcnlpaaGreatDoor
open Go.RowKit
set_option maxRecDepth 100000
set_option linter.unusedSimpArgs false
theorem CloneC_con : Con Tryz.prog CtxP 29 [.sl []] (.fresh 69 []) := by
  refine con_fresh base Tryz.func29 rfl rfl (by kernel_rfl) (Nat.le_of_ble_eq_true rfl) ?_
  rw [init_eq]
  (repeat' (first | exact trivial | refine stq ?_ | (refine awp_ret ?_; simp only [then_ret, block_ret, end_ret]) | ((first | refine stp ?_ | refine nqif_ways (fun h => ?_) ?_ | ((first | refine gif_ways (fun h => ?_) (fun h => ?_) | refine cif_ways (fun h => ?_) (fun h => ?_)) <;> (try simp only [sxn] at h) <;> (try (exfalso; omega)))) <;> (try (refine wS ?_)))))
  all_goals simp only [sxd, z0, p0, Nat.reduceEqDiff, ↓reduceIte, Tryz.f29, *]
noncomputable def pay13_ops : Array Oper := ((Tryz.f8.body.bind (regOf 13)).getD #[])
noncomputable def pay13_vs (l : LoanV) (b3 b9 : Nat) (n : Int) : Nat → AV := fun i =>
  [.pt b3 0 4, .ex (.int .i64 l.pit), .pt b9 0 0, .ex (.int .i64 n), .ex (.int .i64 (l.pit + n)), .pt b3 0 4, .junk].getD i .und
set_option maxHeartbeats 4000000 in
theorem pay13 {C : World → Prop} (Bs : Base Tryz.prog C) {tm : Nat → AV} {hp : Nat → Option Row1} {nx b3 b9 : Nat} {l : LoanV} {n : Int} {Q : Exit → AS → Prop} (t3 : tm 3 = .pt b3 0 0) (t9 : tm 9 = .pt b9 0 0) (h3 : hp b3 = some ⟨32, [[.ex (.int .i64 l.id), .ex (.int .i64 l.acc), .ex (.int .i64 l.st), .ex (.int .i64 l.pp), .ex (.int .i64 l.pit), .ex (.int .i64 l.fee), .ex (.int .i64 l.pen), .ex (.int .i64 l.chg), .ex (.int .i64 l.prov), .ex (.int .i64 l.loss), .ex (.int .i64 l.recd), .ex (.int .i64 l.t.method), .ex (.int .i64 l.t.prin), .ex (.int .i64 l.t.ppm), .ex (.int .i64 l.t.start), .ex (.int .i64 l.t.every), .ex (.int .i64 l.t.count), .ex (.int .i64 l.t.bal), .ex (.int .i64 l.t.mode), .ex (.int .i64 l.t.pen), .ex (.int .i64 l.t.fee), .ex (.string l.t.cal), .ex (.string l.t.cur), .sl (duesC l.dues), .sl []]], true⟩) {H1 : Nat → Option Row1} {N1 : Nat}
    (hcon : ConI Tryz.prog C 26 [.pt b9 0 0, .ex (.int .i64 3)] hp (nx + 7) (fun u h m => u = .ex (.int .i64 n) ∧ h = H1 ∧ m = N1)) (hN : nx ≤ N1) (h31 : H1 b3 = some ⟨32, [[.ex (.int .i64 l.id), .ex (.int .i64 l.acc), .ex (.int .i64 l.st), .ex (.int .i64 l.pp), .ex (.int .i64 l.pit), .ex (.int .i64 l.fee), .ex (.int .i64 l.pen), .ex (.int .i64 l.chg), .ex (.int .i64 l.prov), .ex (.int .i64 l.loss), .ex (.int .i64 l.recd), .ex (.int .i64 l.t.method), .ex (.int .i64 l.t.prin), .ex (.int .i64 l.t.ppm), .ex (.int .i64 l.t.start), .ex (.int .i64 l.t.every), .ex (.int .i64 l.t.count), .ex (.int .i64 l.t.bal), .ex (.int .i64 l.t.mode), .ex (.int .i64 l.t.pen), .ex (.int .i64 l.t.fee), .ex (.string l.t.cal), .ex (.string l.t.cur), .sl (duesC l.dues), .sl []]], true⟩) (g0 : 0 ≤ l.pit) (g1 : l.pit ≤ 1000000000000000) (n0 : 0 ≤ n) (n1 : n ≤ 1000000000000000)
    (hq : ∀ tm' : Nat → AV, tm' 3 = .pt b3 0 0 → tm' 9 = .pt b9 0 0 → tm' 6 = tm 6 → Q .normal ⟨tm', upd H1 b3 (some ⟨32, [[.ex (.int .i64 (({ l with pit := l.pit + n })).id), .ex (.int .i64 (({ l with pit := l.pit + n })).acc), .ex (.int .i64 (({ l with pit := l.pit + n })).st), .ex (.int .i64 (({ l with pit := l.pit + n })).pp), .ex (.int .i64 (({ l with pit := l.pit + n })).pit), .ex (.int .i64 (({ l with pit := l.pit + n })).fee), .ex (.int .i64 (({ l with pit := l.pit + n })).pen), .ex (.int .i64 (({ l with pit := l.pit + n })).chg), .ex (.int .i64 (({ l with pit := l.pit + n })).prov), .ex (.int .i64 (({ l with pit := l.pit + n })).loss), .ex (.int .i64 (({ l with pit := l.pit + n })).recd), .ex (.int .i64 (({ l with pit := l.pit + n })).t.method), .ex (.int .i64 (({ l with pit := l.pit + n })).t.prin), .ex (.int .i64 (({ l with pit := l.pit + n })).t.ppm), .ex (.int .i64 (({ l with pit := l.pit + n })).t.start), .ex (.int .i64 (({ l with pit := l.pit + n })).t.every), .ex (.int .i64 (({ l with pit := l.pit + n })).t.count), .ex (.int .i64 (({ l with pit := l.pit + n })).t.bal), .ex (.int .i64 (({ l with pit := l.pit + n })).t.mode), .ex (.int .i64 (({ l with pit := l.pit + n })).t.pen), .ex (.int .i64 (({ l with pit := l.pit + n })).t.fee), .ex (.string (({ l with pit := l.pit + n })).t.cal), .ex (.string (({ l with pit := l.pit + n })).t.cur), .sl (duesC (({ l with pit := l.pit + n })).dues), .sl []]], true⟩), N1 + 7⟩) :
    awp Tryz.prog C (.region 13 pay13_ops true) Q ⟨tm, hp, nx⟩ := by
  have hO : Ord pay13_ops pay13_ops.size := ord_of (by kernel_rfl)
  refine region_chain Bs (vs := (pay13_vs l b3 b9 n)) (ch := [3, 6]) (H := fun c => bif Nat.beq c 0 then hp else bif Nat.beq c 1 then H1 else upd H1 b3 (some ⟨32, [[.ex (.int .i64 (({ l with pit := l.pit + n })).id), .ex (.int .i64 (({ l with pit := l.pit + n })).acc), .ex (.int .i64 (({ l with pit := l.pit + n })).st), .ex (.int .i64 (({ l with pit := l.pit + n })).pp), .ex (.int .i64 (({ l with pit := l.pit + n })).pit), .ex (.int .i64 (({ l with pit := l.pit + n })).fee), .ex (.int .i64 (({ l with pit := l.pit + n })).pen), .ex (.int .i64 (({ l with pit := l.pit + n })).chg), .ex (.int .i64 (({ l with pit := l.pit + n })).prov), .ex (.int .i64 (({ l with pit := l.pit + n })).loss), .ex (.int .i64 (({ l with pit := l.pit + n })).recd), .ex (.int .i64 (({ l with pit := l.pit + n })).t.method), .ex (.int .i64 (({ l with pit := l.pit + n })).t.prin), .ex (.int .i64 (({ l with pit := l.pit + n })).t.ppm), .ex (.int .i64 (({ l with pit := l.pit + n })).t.start), .ex (.int .i64 (({ l with pit := l.pit + n })).t.every), .ex (.int .i64 (({ l with pit := l.pit + n })).t.count), .ex (.int .i64 (({ l with pit := l.pit + n })).t.bal), .ex (.int .i64 (({ l with pit := l.pit + n })).t.mode), .ex (.int .i64 (({ l with pit := l.pit + n })).t.pen), .ex (.int .i64 (({ l with pit := l.pit + n })).t.fee), .ex (.string (({ l with pit := l.pit + n })).t.cal), .ex (.string (({ l with pit := l.pit + n })).t.cur), .sl (duesC (({ l with pit := l.pit + n })).dues), .sl []]], true⟩)) (B := fun c => bif Nat.beq c 0 then nx else N1) hO ?_ ?_
  · refine ⟨rfl, rfl, ?_, ?_, by simp, ?_, ?_, ?_, ?_⟩
    · intro c hc
      have hc : c ≤ 2 := hc
      have : c = 0 ∨ c = 1 ∨ c = 2 := by omega
      rcases this with rfl | rfl | rfl <;> first | exact Nat.le_refl _ | exact hN
    · intro h hh
      simp only [List.mem_cons, List.not_mem_nil, or_false] at hh
      rcases hh with rfl | rfl <;> exact Nat.le_of_ble_eq_true (by kernel_rfl)
    · have hms := masks_reach (ops := pay13_ops) pay13_ops.toList [] (fun j => by simp) (fun j i hb => by simp at hb)
      intro m h h' hm hm'
      have hlt : m + 1 < 2 := by have := (List.getElem?_eq_some_iff.1 hm').1; simpa using this
      have : m = 0 := by omega
      rcases this with rfl
      · cases hm; cases hm'; exact hms 6 3 (by decide +kernel)
    · intro o ho
      have : (pay13_ops.toList.all fun o => o.guard.isNone) = true := by kernel_rfl
      have := List.all_eq_true.1 this o ho
      simpa using this
    · intro m h o hm ho
      have hlt : m < 2 := by have := (List.getElem?_eq_some_iff.1 hm).1; simpa using this
      have : m = 0 ∨ m = 1 := by omega
      rcases this with rfl | rfl
      · cases (show some 3 = some h from hm)
        cases ho
        have e61 : tmAt pay13_ops pay13_ops.size (pay13_vs l b3 b9 n) tm (fun q => decide (q < 3)) 61 = .pt b9 0 0 := by kernel_rfl
        generalize hT : tmAt pay13_ops pay13_ops.size (pay13_vs l b3 b9 n) tm (fun q => decide (q < 3)) = T at *
        refine .inr ⟨26, [.pt b9 0 0, .ex (.int .i64 3)], hcon, fun M0 φ a w hx => ?_⟩
        refine callOf_enter (ev := evT T) (fa := (26, [.pt b9 0 0, .ex (.int .i64 3)])) (hcon).1 ?_ _ φ a w hx
        show some (26, _) = some (26, _)
        show some (26, [T 61, .ex (.int .i64 3)]) = _
        rw [e61]
      · cases (show some 6 = some h from hm)
        cases ho
        have e64 : tmAt pay13_ops pay13_ops.size (pay13_vs l b3 b9 n) tm (fun q => decide (q < 6)) 64 = .pt b3 0 4 := by kernel_rfl
        have e63 : tmAt pay13_ops pay13_ops.size (pay13_vs l b3 b9 n) tm (fun q => decide (q < 6)) 63 = .ex (.int .i64 (l.pit + n)) := by kernel_rfl
        generalize hT : tmAt pay13_ops pay13_ops.size (pay13_vs l b3 b9 n) tm (fun q => decide (q < 6)) = T at *
        refine .inl ⟨.set b3 ⟨32, [[.ex (.int .i64 (({ l with pit := l.pit + n })).id), .ex (.int .i64 (({ l with pit := l.pit + n })).acc), .ex (.int .i64 (({ l with pit := l.pit + n })).st), .ex (.int .i64 (({ l with pit := l.pit + n })).pp), .ex (.int .i64 (({ l with pit := l.pit + n })).pit), .ex (.int .i64 (({ l with pit := l.pit + n })).fee), .ex (.int .i64 (({ l with pit := l.pit + n })).pen), .ex (.int .i64 (({ l with pit := l.pit + n })).chg), .ex (.int .i64 (({ l with pit := l.pit + n })).prov), .ex (.int .i64 (({ l with pit := l.pit + n })).loss), .ex (.int .i64 (({ l with pit := l.pit + n })).recd), .ex (.int .i64 (({ l with pit := l.pit + n })).t.method), .ex (.int .i64 (({ l with pit := l.pit + n })).t.prin), .ex (.int .i64 (({ l with pit := l.pit + n })).t.ppm), .ex (.int .i64 (({ l with pit := l.pit + n })).t.start), .ex (.int .i64 (({ l with pit := l.pit + n })).t.every), .ex (.int .i64 (({ l with pit := l.pit + n })).t.count), .ex (.int .i64 (({ l with pit := l.pit + n })).t.bal), .ex (.int .i64 (({ l with pit := l.pit + n })).t.mode), .ex (.int .i64 (({ l with pit := l.pit + n })).t.pen), .ex (.int .i64 (({ l with pit := l.pit + n })).t.fee), .ex (.string (({ l with pit := l.pit + n })).t.cal), .ex (.string (({ l with pit := l.pit + n })).t.cur), .sl (duesC (({ l with pit := l.pit + n })).dues), .sl []]], true⟩, ?_, rfl, rfl⟩
        show aval Tryz.prog C ((N1) + 6) (.store 3 (.tmp 64) (.tmp 63)) _ (AS.ev ⟨T, fun _ => none, 0⟩) (H1) _
        simp (disch := omega) only [sx, Value.oneCell', ↓reduceIte, Nat.reduceAdd, Nat.reduceMul, Nat.reduceEqDiff, Nat.reduceLT, Nat.reduceLeDiff, Int.reduceToNat, Int.reduceEq, Int.reduceLT, Int.reduceLE, Int.reduceNe, e64, e63, h3, h31]
        first | exact ⟨rfl, rfl⟩ | trivial | rfl | exact ⟨by omega, rfl⟩ | exact ⟨by omega, rfl, rfl⟩ | (trace_state; simp)
    · have hms := masks_reach (ops := pay13_ops) pay13_ops.toList [] (fun j => by simp) (fun j i hb => by simp at hb)
      intro i o ho hni c hc hcc
      have hc : c ≤ 2 := hc
      have hi : i < 7 := (Array.getElem?_eq_some_iff.1 ho).1
      have hi' : i = 0 ∨ i = 1 ∨ i = 2 ∨ i = 4 ∨ i = 5 := by
        have : i ≠ 3 ∧ i ≠ 6 := by simpa using hni
        omega
      clear hi
      rcases hi' with rfl | rfl | rfl | rfl | rfl
      · cases ho
        have l2 := (hcc 1 6 rfl).2 (hms 6 0 (by decide +kernel))
        have e3 : tmAt pay13_ops pay13_ops.size (pay13_vs l b3 b9 n) tm (fun q => decide (q < 0)) 3 = .pt b3 0 0 := by rw [← t3]; kernel_rfl
        generalize hT : tmAt pay13_ops pay13_ops.size (pay13_vs l b3 b9 n) tm (fun q => decide (q < 0)) = T at *
        have hcs : c = 0 ∨ c = 1 := by omega
        clear hcc hc l2
        rcases hcs with rfl | rfl
        · refine .inl ?_
          show aval Tryz.prog C ((nx) + 0) (.fieldAddr 32 (.tmp 3) 4) _ (AS.ev ⟨T, fun _ => none, 0⟩) (hp) _
          simp (disch := omega) only [sx, Value.oneCell', ↓reduceIte, Nat.reduceAdd, Nat.reduceMul, Nat.reduceEqDiff, Nat.reduceLT, Nat.reduceLeDiff, Int.reduceToNat, Int.reduceEq, Int.reduceLT, Int.reduceLE, Int.reduceNe, e3, h3, h31]
          first | exact ⟨rfl, .inl trivial⟩ | exact ⟨rfl, .inl rfl⟩ | exact ⟨trivial, .inl trivial⟩ | exact .inl trivial | exact .inl rfl | exact ⟨rfl, .inr rfl⟩ | trivial | simp
        · refine .inl ?_
          show aval Tryz.prog C ((N1) + 0) (.fieldAddr 32 (.tmp 3) 4) _ (AS.ev ⟨T, fun _ => none, 0⟩) (H1) _
          simp (disch := omega) only [sx, Value.oneCell', ↓reduceIte, Nat.reduceAdd, Nat.reduceMul, Nat.reduceEqDiff, Nat.reduceLT, Nat.reduceLeDiff, Int.reduceToNat, Int.reduceEq, Int.reduceLT, Int.reduceLE, Int.reduceNe, e3, h3, h31]
          first | exact ⟨rfl, .inl trivial⟩ | exact ⟨rfl, .inl rfl⟩ | exact ⟨trivial, .inl trivial⟩ | exact .inl trivial | exact .inl rfl | exact ⟨rfl, .inr rfl⟩ | trivial | simp
      · cases ho
        have l2 := (hcc 1 6 rfl).2 (hms 6 1 (by decide +kernel))
        have e59 : tmAt pay13_ops pay13_ops.size (pay13_vs l b3 b9 n) tm (fun q => decide (q < 1)) 59 = .pt b3 0 4 := by kernel_rfl
        generalize hT : tmAt pay13_ops pay13_ops.size (pay13_vs l b3 b9 n) tm (fun q => decide (q < 1)) = T at *
        have hcs : c = 0 ∨ c = 1 := by omega
        clear hcc hc l2
        rcases hcs with rfl | rfl
        · refine .inl ?_
          show aval Tryz.prog C ((nx) + 1) (.load 3 (.tmp 59)) _ (AS.ev ⟨T, fun _ => none, 0⟩) (hp) _
          simp (disch := omega) only [sx, Value.oneCell', ↓reduceIte, Nat.reduceAdd, Nat.reduceMul, Nat.reduceEqDiff, Nat.reduceLT, Nat.reduceLeDiff, Int.reduceToNat, Int.reduceEq, Int.reduceLT, Int.reduceLE, Int.reduceNe, e59, h3, h31]
          first | exact ⟨rfl, .inl trivial⟩ | exact ⟨rfl, .inl rfl⟩ | exact ⟨trivial, .inl trivial⟩ | exact .inl trivial | exact .inl rfl | exact ⟨rfl, .inr rfl⟩ | trivial | simp
        · refine .inl ?_
          show aval Tryz.prog C ((N1) + 1) (.load 3 (.tmp 59)) _ (AS.ev ⟨T, fun _ => none, 0⟩) (H1) _
          simp (disch := omega) only [sx, Value.oneCell', ↓reduceIte, Nat.reduceAdd, Nat.reduceMul, Nat.reduceEqDiff, Nat.reduceLT, Nat.reduceLeDiff, Int.reduceToNat, Int.reduceEq, Int.reduceLT, Int.reduceLE, Int.reduceNe, e59, h3, h31]
          first | exact ⟨rfl, .inl trivial⟩ | exact ⟨rfl, .inl rfl⟩ | exact ⟨trivial, .inl trivial⟩ | exact .inl trivial | exact .inl rfl | exact ⟨rfl, .inr rfl⟩ | trivial | simp
      · cases ho
        have l2 := (hcc 0 3 rfl).2 (hms 3 2 (by decide +kernel))
        have e9 : tmAt pay13_ops pay13_ops.size (pay13_vs l b3 b9 n) tm (fun q => decide (q < 2)) 9 = .pt b9 0 0 := by rw [← t9]; kernel_rfl
        generalize hT : tmAt pay13_ops pay13_ops.size (pay13_vs l b3 b9 n) tm (fun q => decide (q < 2)) = T at *
        have hcs : c = 0 := by omega
        clear hcc hc l2
        rcases hcs with rfl
        · refine .inl ?_
          show aval Tryz.prog C ((nx) + 2) (.move (.tmp 9)) _ (AS.ev ⟨T, fun _ => none, 0⟩) (hp) _
          simp (disch := omega) only [sx, Value.oneCell', ↓reduceIte, Nat.reduceAdd, Nat.reduceMul, Nat.reduceEqDiff, Nat.reduceLT, Nat.reduceLeDiff, Int.reduceToNat, Int.reduceEq, Int.reduceLT, Int.reduceLE, Int.reduceNe, e9, h3, h31]
          first | exact ⟨rfl, .inl trivial⟩ | exact ⟨rfl, .inl rfl⟩ | exact ⟨trivial, .inl trivial⟩ | exact .inl trivial | exact .inl rfl | exact ⟨rfl, .inr rfl⟩ | trivial | simp
      · cases ho
        have l1 := (hcc 0 3 rfl).1 (hms 4 3 (by decide +kernel))
        have l2 := (hcc 1 6 rfl).2 (hms 6 4 (by decide +kernel))
        have e60 : tmAt pay13_ops pay13_ops.size (pay13_vs l b3 b9 n) tm (fun q => decide (q < 4)) 60 = .ex (.int .i64 l.pit) := by kernel_rfl
        have e62 : tmAt pay13_ops pay13_ops.size (pay13_vs l b3 b9 n) tm (fun q => decide (q < 4)) 62 = .ex (.int .i64 n) := by kernel_rfl
        generalize hT : tmAt pay13_ops pay13_ops.size (pay13_vs l b3 b9 n) tm (fun q => decide (q < 4)) = T at *
        have hcs : c = 1 := by omega
        clear hcc hc l1 l2
        rcases hcs with rfl
        · refine .inl ?_
          show aval Tryz.prog C ((N1) + 4) (.binOp .add 3 (.tmp 60) (.tmp 62) 3) _ (AS.ev ⟨T, fun _ => none, 0⟩) (H1) _
          simp (disch := omega) only [sx, Value.oneCell', ↓reduceIte, Nat.reduceAdd, Nat.reduceMul, Nat.reduceEqDiff, Nat.reduceLT, Nat.reduceLeDiff, Int.reduceToNat, Int.reduceEq, Int.reduceLT, Int.reduceLE, Int.reduceNe, e60, e62, h3, h31]
          first | exact ⟨rfl, .inl trivial⟩ | exact ⟨rfl, .inl rfl⟩ | exact ⟨trivial, .inl trivial⟩ | exact .inl trivial | exact .inl rfl | exact ⟨rfl, .inr rfl⟩ | trivial | simp
      · cases ho
        have l1 := (hcc 0 3 rfl).1 (hms 5 3 (by decide +kernel))
        have l2 := (hcc 1 6 rfl).2 (hms 6 5 (by decide +kernel))
        have e3 : tmAt pay13_ops pay13_ops.size (pay13_vs l b3 b9 n) tm (fun q => decide (q < 5)) 3 = .pt b3 0 0 := by rw [← t3]; kernel_rfl
        generalize hT : tmAt pay13_ops pay13_ops.size (pay13_vs l b3 b9 n) tm (fun q => decide (q < 5)) = T at *
        have hcs : c = 1 := by omega
        clear hcc hc l1 l2
        rcases hcs with rfl
        · refine .inl ?_
          show aval Tryz.prog C ((N1) + 5) (.fieldAddr 32 (.tmp 3) 4) _ (AS.ev ⟨T, fun _ => none, 0⟩) (H1) _
          simp (disch := omega) only [sx, Value.oneCell', ↓reduceIte, Nat.reduceAdd, Nat.reduceMul, Nat.reduceEqDiff, Nat.reduceLT, Nat.reduceLeDiff, Int.reduceToNat, Int.reduceEq, Int.reduceLT, Int.reduceLE, Int.reduceNe, e3, h3, h31]
          first | exact ⟨rfl, .inl trivial⟩ | exact ⟨rfl, .inl rfl⟩ | exact ⟨trivial, .inl trivial⟩ | exact .inl trivial | exact .inl rfl | exact ⟨rfl, .inr rfl⟩ | trivial | simp
  · refine hq _ ?_ ?_ ?_
    · rw [← t3]; kernel_rfl
    · rw [← t9]; kernel_rfl
    · kernel_rfl
noncomputable def pay14_ops : Array Oper := ((Tryz.f8.body.bind (regOf 14)).getD #[])
noncomputable def pay14_vs (l : LoanV) (b3 b9 : Nat) (n : Int) : Nat → AV := fun i =>
  [.pt b3 0 3, .ex (.int .i64 l.pp), .pt b9 0 0, .ex (.int .i64 n), .ex (.int .i64 (l.pp + n)), .pt b3 0 3, .junk].getD i .und
set_option maxHeartbeats 4000000 in
theorem pay14 {C : World → Prop} (Bs : Base Tryz.prog C) {tm : Nat → AV} {hp : Nat → Option Row1} {nx b3 b9 : Nat} {l : LoanV} {n : Int} {Q : Exit → AS → Prop} (t3 : tm 3 = .pt b3 0 0) (t9 : tm 9 = .pt b9 0 0) (h3 : hp b3 = some ⟨32, [[.ex (.int .i64 l.id), .ex (.int .i64 l.acc), .ex (.int .i64 l.st), .ex (.int .i64 l.pp), .ex (.int .i64 l.pit), .ex (.int .i64 l.fee), .ex (.int .i64 l.pen), .ex (.int .i64 l.chg), .ex (.int .i64 l.prov), .ex (.int .i64 l.loss), .ex (.int .i64 l.recd), .ex (.int .i64 l.t.method), .ex (.int .i64 l.t.prin), .ex (.int .i64 l.t.ppm), .ex (.int .i64 l.t.start), .ex (.int .i64 l.t.every), .ex (.int .i64 l.t.count), .ex (.int .i64 l.t.bal), .ex (.int .i64 l.t.mode), .ex (.int .i64 l.t.pen), .ex (.int .i64 l.t.fee), .ex (.string l.t.cal), .ex (.string l.t.cur), .sl (duesC l.dues), .sl []]], true⟩) {H1 : Nat → Option Row1} {N1 : Nat}
    (hcon : ConI Tryz.prog C 26 [.pt b9 0 0, .ex (.int .i64 4)] hp (nx + 7) (fun u h m => u = .ex (.int .i64 n) ∧ h = H1 ∧ m = N1)) (hN : nx ≤ N1) (h31 : H1 b3 = some ⟨32, [[.ex (.int .i64 l.id), .ex (.int .i64 l.acc), .ex (.int .i64 l.st), .ex (.int .i64 l.pp), .ex (.int .i64 l.pit), .ex (.int .i64 l.fee), .ex (.int .i64 l.pen), .ex (.int .i64 l.chg), .ex (.int .i64 l.prov), .ex (.int .i64 l.loss), .ex (.int .i64 l.recd), .ex (.int .i64 l.t.method), .ex (.int .i64 l.t.prin), .ex (.int .i64 l.t.ppm), .ex (.int .i64 l.t.start), .ex (.int .i64 l.t.every), .ex (.int .i64 l.t.count), .ex (.int .i64 l.t.bal), .ex (.int .i64 l.t.mode), .ex (.int .i64 l.t.pen), .ex (.int .i64 l.t.fee), .ex (.string l.t.cal), .ex (.string l.t.cur), .sl (duesC l.dues), .sl []]], true⟩) (g0 : 0 ≤ l.pp) (g1 : l.pp ≤ 1000000000000000) (n0 : 0 ≤ n) (n1 : n ≤ 1000000000000000)
    (hq : ∀ tm' : Nat → AV, tm' 3 = .pt b3 0 0 → tm' 9 = .pt b9 0 0 → tm' 6 = tm 6 → Q .normal ⟨tm', upd H1 b3 (some ⟨32, [[.ex (.int .i64 (({ l with pp := l.pp + n })).id), .ex (.int .i64 (({ l with pp := l.pp + n })).acc), .ex (.int .i64 (({ l with pp := l.pp + n })).st), .ex (.int .i64 (({ l with pp := l.pp + n })).pp), .ex (.int .i64 (({ l with pp := l.pp + n })).pit), .ex (.int .i64 (({ l with pp := l.pp + n })).fee), .ex (.int .i64 (({ l with pp := l.pp + n })).pen), .ex (.int .i64 (({ l with pp := l.pp + n })).chg), .ex (.int .i64 (({ l with pp := l.pp + n })).prov), .ex (.int .i64 (({ l with pp := l.pp + n })).loss), .ex (.int .i64 (({ l with pp := l.pp + n })).recd), .ex (.int .i64 (({ l with pp := l.pp + n })).t.method), .ex (.int .i64 (({ l with pp := l.pp + n })).t.prin), .ex (.int .i64 (({ l with pp := l.pp + n })).t.ppm), .ex (.int .i64 (({ l with pp := l.pp + n })).t.start), .ex (.int .i64 (({ l with pp := l.pp + n })).t.every), .ex (.int .i64 (({ l with pp := l.pp + n })).t.count), .ex (.int .i64 (({ l with pp := l.pp + n })).t.bal), .ex (.int .i64 (({ l with pp := l.pp + n })).t.mode), .ex (.int .i64 (({ l with pp := l.pp + n })).t.pen), .ex (.int .i64 (({ l with pp := l.pp + n })).t.fee), .ex (.string (({ l with pp := l.pp + n })).t.cal), .ex (.string (({ l with pp := l.pp + n })).t.cur), .sl (duesC (({ l with pp := l.pp + n })).dues), .sl []]], true⟩), N1 + 7⟩) :
    awp Tryz.prog C (.region 14 pay14_ops true) Q ⟨tm, hp, nx⟩ := by
  have hO : Ord pay14_ops pay14_ops.size := ord_of (by kernel_rfl)
  refine region_chain Bs (vs := (pay14_vs l b3 b9 n)) (ch := [3, 6]) (H := fun c => bif Nat.beq c 0 then hp else bif Nat.beq c 1 then H1 else upd H1 b3 (some ⟨32, [[.ex (.int .i64 (({ l with pp := l.pp + n })).id), .ex (.int .i64 (({ l with pp := l.pp + n })).acc), .ex (.int .i64 (({ l with pp := l.pp + n })).st), .ex (.int .i64 (({ l with pp := l.pp + n })).pp), .ex (.int .i64 (({ l with pp := l.pp + n })).pit), .ex (.int .i64 (({ l with pp := l.pp + n })).fee), .ex (.int .i64 (({ l with pp := l.pp + n })).pen), .ex (.int .i64 (({ l with pp := l.pp + n })).chg), .ex (.int .i64 (({ l with pp := l.pp + n })).prov), .ex (.int .i64 (({ l with pp := l.pp + n })).loss), .ex (.int .i64 (({ l with pp := l.pp + n })).recd), .ex (.int .i64 (({ l with pp := l.pp + n })).t.method), .ex (.int .i64 (({ l with pp := l.pp + n })).t.prin), .ex (.int .i64 (({ l with pp := l.pp + n })).t.ppm), .ex (.int .i64 (({ l with pp := l.pp + n })).t.start), .ex (.int .i64 (({ l with pp := l.pp + n })).t.every), .ex (.int .i64 (({ l with pp := l.pp + n })).t.count), .ex (.int .i64 (({ l with pp := l.pp + n })).t.bal), .ex (.int .i64 (({ l with pp := l.pp + n })).t.mode), .ex (.int .i64 (({ l with pp := l.pp + n })).t.pen), .ex (.int .i64 (({ l with pp := l.pp + n })).t.fee), .ex (.string (({ l with pp := l.pp + n })).t.cal), .ex (.string (({ l with pp := l.pp + n })).t.cur), .sl (duesC (({ l with pp := l.pp + n })).dues), .sl []]], true⟩)) (B := fun c => bif Nat.beq c 0 then nx else N1) hO ?_ ?_
  · refine ⟨rfl, rfl, ?_, ?_, by simp, ?_, ?_, ?_, ?_⟩
    · intro c hc
      have hc : c ≤ 2 := hc
      have : c = 0 ∨ c = 1 ∨ c = 2 := by omega
      rcases this with rfl | rfl | rfl <;> first | exact Nat.le_refl _ | exact hN
    · intro h hh
      simp only [List.mem_cons, List.not_mem_nil, or_false] at hh
      rcases hh with rfl | rfl <;> exact Nat.le_of_ble_eq_true (by kernel_rfl)
    · have hms := masks_reach (ops := pay14_ops) pay14_ops.toList [] (fun j => by simp) (fun j i hb => by simp at hb)
      intro m h h' hm hm'
      have hlt : m + 1 < 2 := by have := (List.getElem?_eq_some_iff.1 hm').1; simpa using this
      have : m = 0 := by omega
      rcases this with rfl
      · cases hm; cases hm'; exact hms 6 3 (by decide +kernel)
    · intro o ho
      have : (pay14_ops.toList.all fun o => o.guard.isNone) = true := by kernel_rfl
      have := List.all_eq_true.1 this o ho
      simpa using this
    · intro m h o hm ho
      have hlt : m < 2 := by have := (List.getElem?_eq_some_iff.1 hm).1; simpa using this
      have : m = 0 ∨ m = 1 := by omega
      rcases this with rfl | rfl
      · cases (show some 3 = some h from hm)
        cases ho
        have e67 : tmAt pay14_ops pay14_ops.size (pay14_vs l b3 b9 n) tm (fun q => decide (q < 3)) 67 = .pt b9 0 0 := by kernel_rfl
        generalize hT : tmAt pay14_ops pay14_ops.size (pay14_vs l b3 b9 n) tm (fun q => decide (q < 3)) = T at *
        refine .inr ⟨26, [.pt b9 0 0, .ex (.int .i64 4)], hcon, fun M0 φ a w hx => ?_⟩
        refine callOf_enter (ev := evT T) (fa := (26, [.pt b9 0 0, .ex (.int .i64 4)])) (hcon).1 ?_ _ φ a w hx
        show some (26, _) = some (26, _)
        show some (26, [T 67, .ex (.int .i64 4)]) = _
        rw [e67]
      · cases (show some 6 = some h from hm)
        cases ho
        have e70 : tmAt pay14_ops pay14_ops.size (pay14_vs l b3 b9 n) tm (fun q => decide (q < 6)) 70 = .pt b3 0 3 := by kernel_rfl
        have e69 : tmAt pay14_ops pay14_ops.size (pay14_vs l b3 b9 n) tm (fun q => decide (q < 6)) 69 = .ex (.int .i64 (l.pp + n)) := by kernel_rfl
        generalize hT : tmAt pay14_ops pay14_ops.size (pay14_vs l b3 b9 n) tm (fun q => decide (q < 6)) = T at *
        refine .inl ⟨.set b3 ⟨32, [[.ex (.int .i64 (({ l with pp := l.pp + n })).id), .ex (.int .i64 (({ l with pp := l.pp + n })).acc), .ex (.int .i64 (({ l with pp := l.pp + n })).st), .ex (.int .i64 (({ l with pp := l.pp + n })).pp), .ex (.int .i64 (({ l with pp := l.pp + n })).pit), .ex (.int .i64 (({ l with pp := l.pp + n })).fee), .ex (.int .i64 (({ l with pp := l.pp + n })).pen), .ex (.int .i64 (({ l with pp := l.pp + n })).chg), .ex (.int .i64 (({ l with pp := l.pp + n })).prov), .ex (.int .i64 (({ l with pp := l.pp + n })).loss), .ex (.int .i64 (({ l with pp := l.pp + n })).recd), .ex (.int .i64 (({ l with pp := l.pp + n })).t.method), .ex (.int .i64 (({ l with pp := l.pp + n })).t.prin), .ex (.int .i64 (({ l with pp := l.pp + n })).t.ppm), .ex (.int .i64 (({ l with pp := l.pp + n })).t.start), .ex (.int .i64 (({ l with pp := l.pp + n })).t.every), .ex (.int .i64 (({ l with pp := l.pp + n })).t.count), .ex (.int .i64 (({ l with pp := l.pp + n })).t.bal), .ex (.int .i64 (({ l with pp := l.pp + n })).t.mode), .ex (.int .i64 (({ l with pp := l.pp + n })).t.pen), .ex (.int .i64 (({ l with pp := l.pp + n })).t.fee), .ex (.string (({ l with pp := l.pp + n })).t.cal), .ex (.string (({ l with pp := l.pp + n })).t.cur), .sl (duesC (({ l with pp := l.pp + n })).dues), .sl []]], true⟩, ?_, rfl, rfl⟩
        show aval Tryz.prog C ((N1) + 6) (.store 3 (.tmp 70) (.tmp 69)) _ (AS.ev ⟨T, fun _ => none, 0⟩) (H1) _
        simp (disch := omega) only [sx, Value.oneCell', ↓reduceIte, Nat.reduceAdd, Nat.reduceMul, Nat.reduceEqDiff, Nat.reduceLT, Nat.reduceLeDiff, Int.reduceToNat, Int.reduceEq, Int.reduceLT, Int.reduceLE, Int.reduceNe, e70, e69, h3, h31]
        first | exact ⟨rfl, rfl⟩ | trivial | rfl | exact ⟨by omega, rfl⟩ | exact ⟨by omega, rfl, rfl⟩ | (trace_state; simp)
    · have hms := masks_reach (ops := pay14_ops) pay14_ops.toList [] (fun j => by simp) (fun j i hb => by simp at hb)
      intro i o ho hni c hc hcc
      have hc : c ≤ 2 := hc
      have hi : i < 7 := (Array.getElem?_eq_some_iff.1 ho).1
      have hi' : i = 0 ∨ i = 1 ∨ i = 2 ∨ i = 4 ∨ i = 5 := by
        have : i ≠ 3 ∧ i ≠ 6 := by simpa using hni
        omega
      clear hi
      rcases hi' with rfl | rfl | rfl | rfl | rfl
      · cases ho
        have l2 := (hcc 1 6 rfl).2 (hms 6 0 (by decide +kernel))
        have e3 : tmAt pay14_ops pay14_ops.size (pay14_vs l b3 b9 n) tm (fun q => decide (q < 0)) 3 = .pt b3 0 0 := by rw [← t3]; kernel_rfl
        generalize hT : tmAt pay14_ops pay14_ops.size (pay14_vs l b3 b9 n) tm (fun q => decide (q < 0)) = T at *
        have hcs : c = 0 ∨ c = 1 := by omega
        clear hcc hc l2
        rcases hcs with rfl | rfl
        · refine .inl ?_
          show aval Tryz.prog C ((nx) + 0) (.fieldAddr 32 (.tmp 3) 3) _ (AS.ev ⟨T, fun _ => none, 0⟩) (hp) _
          simp (disch := omega) only [sx, Value.oneCell', ↓reduceIte, Nat.reduceAdd, Nat.reduceMul, Nat.reduceEqDiff, Nat.reduceLT, Nat.reduceLeDiff, Int.reduceToNat, Int.reduceEq, Int.reduceLT, Int.reduceLE, Int.reduceNe, e3, h3, h31]
          first | exact ⟨rfl, .inl trivial⟩ | exact ⟨rfl, .inl rfl⟩ | exact ⟨trivial, .inl trivial⟩ | exact .inl trivial | exact .inl rfl | exact ⟨rfl, .inr rfl⟩ | trivial | simp
        · refine .inl ?_
          show aval Tryz.prog C ((N1) + 0) (.fieldAddr 32 (.tmp 3) 3) _ (AS.ev ⟨T, fun _ => none, 0⟩) (H1) _
          simp (disch := omega) only [sx, Value.oneCell', ↓reduceIte, Nat.reduceAdd, Nat.reduceMul, Nat.reduceEqDiff, Nat.reduceLT, Nat.reduceLeDiff, Int.reduceToNat, Int.reduceEq, Int.reduceLT, Int.reduceLE, Int.reduceNe, e3, h3, h31]
          first | exact ⟨rfl, .inl trivial⟩ | exact ⟨rfl, .inl rfl⟩ | exact ⟨trivial, .inl trivial⟩ | exact .inl trivial | exact .inl rfl | exact ⟨rfl, .inr rfl⟩ | trivial | simp
      · cases ho
        have l2 := (hcc 1 6 rfl).2 (hms 6 1 (by decide +kernel))
        have e65 : tmAt pay14_ops pay14_ops.size (pay14_vs l b3 b9 n) tm (fun q => decide (q < 1)) 65 = .pt b3 0 3 := by kernel_rfl
        generalize hT : tmAt pay14_ops pay14_ops.size (pay14_vs l b3 b9 n) tm (fun q => decide (q < 1)) = T at *
        have hcs : c = 0 ∨ c = 1 := by omega
        clear hcc hc l2
        rcases hcs with rfl | rfl
        · refine .inl ?_
          show aval Tryz.prog C ((nx) + 1) (.load 3 (.tmp 65)) _ (AS.ev ⟨T, fun _ => none, 0⟩) (hp) _
          simp (disch := omega) only [sx, Value.oneCell', ↓reduceIte, Nat.reduceAdd, Nat.reduceMul, Nat.reduceEqDiff, Nat.reduceLT, Nat.reduceLeDiff, Int.reduceToNat, Int.reduceEq, Int.reduceLT, Int.reduceLE, Int.reduceNe, e65, h3, h31]
          first | exact ⟨rfl, .inl trivial⟩ | exact ⟨rfl, .inl rfl⟩ | exact ⟨trivial, .inl trivial⟩ | exact .inl trivial | exact .inl rfl | exact ⟨rfl, .inr rfl⟩ | trivial | simp
        · refine .inl ?_
          show aval Tryz.prog C ((N1) + 1) (.load 3 (.tmp 65)) _ (AS.ev ⟨T, fun _ => none, 0⟩) (H1) _
          simp (disch := omega) only [sx, Value.oneCell', ↓reduceIte, Nat.reduceAdd, Nat.reduceMul, Nat.reduceEqDiff, Nat.reduceLT, Nat.reduceLeDiff, Int.reduceToNat, Int.reduceEq, Int.reduceLT, Int.reduceLE, Int.reduceNe, e65, h3, h31]
          first | exact ⟨rfl, .inl trivial⟩ | exact ⟨rfl, .inl rfl⟩ | exact ⟨trivial, .inl trivial⟩ | exact .inl trivial | exact .inl rfl | exact ⟨rfl, .inr rfl⟩ | trivial | simp
      · cases ho
        have l2 := (hcc 0 3 rfl).2 (hms 3 2 (by decide +kernel))
        have e9 : tmAt pay14_ops pay14_ops.size (pay14_vs l b3 b9 n) tm (fun q => decide (q < 2)) 9 = .pt b9 0 0 := by rw [← t9]; kernel_rfl
        generalize hT : tmAt pay14_ops pay14_ops.size (pay14_vs l b3 b9 n) tm (fun q => decide (q < 2)) = T at *
        have hcs : c = 0 := by omega
        clear hcc hc l2
        rcases hcs with rfl
        · refine .inl ?_
          show aval Tryz.prog C ((nx) + 2) (.move (.tmp 9)) _ (AS.ev ⟨T, fun _ => none, 0⟩) (hp) _
          simp (disch := omega) only [sx, Value.oneCell', ↓reduceIte, Nat.reduceAdd, Nat.reduceMul, Nat.reduceEqDiff, Nat.reduceLT, Nat.reduceLeDiff, Int.reduceToNat, Int.reduceEq, Int.reduceLT, Int.reduceLE, Int.reduceNe, e9, h3, h31]
          first | exact ⟨rfl, .inl trivial⟩ | exact ⟨rfl, .inl rfl⟩ | exact ⟨trivial, .inl trivial⟩ | exact .inl trivial | exact .inl rfl | exact ⟨rfl, .inr rfl⟩ | trivial | simp
      · cases ho
        have l1 := (hcc 0 3 rfl).1 (hms 4 3 (by decide +kernel))
        have l2 := (hcc 1 6 rfl).2 (hms 6 4 (by decide +kernel))
        have e66 : tmAt pay14_ops pay14_ops.size (pay14_vs l b3 b9 n) tm (fun q => decide (q < 4)) 66 = .ex (.int .i64 l.pp) := by kernel_rfl
        have e68 : tmAt pay14_ops pay14_ops.size (pay14_vs l b3 b9 n) tm (fun q => decide (q < 4)) 68 = .ex (.int .i64 n) := by kernel_rfl
        generalize hT : tmAt pay14_ops pay14_ops.size (pay14_vs l b3 b9 n) tm (fun q => decide (q < 4)) = T at *
        have hcs : c = 1 := by omega
        clear hcc hc l1 l2
        rcases hcs with rfl
        · refine .inl ?_
          show aval Tryz.prog C ((N1) + 4) (.binOp .add 3 (.tmp 66) (.tmp 68) 3) _ (AS.ev ⟨T, fun _ => none, 0⟩) (H1) _
          simp (disch := omega) only [sx, Value.oneCell', ↓reduceIte, Nat.reduceAdd, Nat.reduceMul, Nat.reduceEqDiff, Nat.reduceLT, Nat.reduceLeDiff, Int.reduceToNat, Int.reduceEq, Int.reduceLT, Int.reduceLE, Int.reduceNe, e66, e68, h3, h31]
          first | exact ⟨rfl, .inl trivial⟩ | exact ⟨rfl, .inl rfl⟩ | exact ⟨trivial, .inl trivial⟩ | exact .inl trivial | exact .inl rfl | exact ⟨rfl, .inr rfl⟩ | trivial | simp
      · cases ho
        have l1 := (hcc 0 3 rfl).1 (hms 5 3 (by decide +kernel))
        have l2 := (hcc 1 6 rfl).2 (hms 6 5 (by decide +kernel))
        have e3 : tmAt pay14_ops pay14_ops.size (pay14_vs l b3 b9 n) tm (fun q => decide (q < 5)) 3 = .pt b3 0 0 := by rw [← t3]; kernel_rfl
        generalize hT : tmAt pay14_ops pay14_ops.size (pay14_vs l b3 b9 n) tm (fun q => decide (q < 5)) = T at *
        have hcs : c = 1 := by omega
        clear hcc hc l1 l2
        rcases hcs with rfl
        · refine .inl ?_
          show aval Tryz.prog C ((N1) + 5) (.fieldAddr 32 (.tmp 3) 3) _ (AS.ev ⟨T, fun _ => none, 0⟩) (H1) _
          simp (disch := omega) only [sx, Value.oneCell', ↓reduceIte, Nat.reduceAdd, Nat.reduceMul, Nat.reduceEqDiff, Nat.reduceLT, Nat.reduceLeDiff, Int.reduceToNat, Int.reduceEq, Int.reduceLT, Int.reduceLE, Int.reduceNe, e3, h3, h31]
          first | exact ⟨rfl, .inl trivial⟩ | exact ⟨rfl, .inl rfl⟩ | exact ⟨trivial, .inl trivial⟩ | exact .inl trivial | exact .inl rfl | exact ⟨rfl, .inr rfl⟩ | trivial | simp
  · refine hq _ ?_ ?_ ?_
    · rw [← t3]; kernel_rfl
    · rw [← t9]; kernel_rfl
    · kernel_rfl
theorem Pay_big (l : LoanV) (h : LoanOk l) {n on : Int} (n1 : 1000000000000 < n) (n2 : n ≤ 9223372036854775807) : Con Tryz.prog CtxP 8 [.agg [.ex (.int .i64 l.id), .ex (.int .i64 l.acc), .ex (.int .i64 l.st), .ex (.int .i64 l.pp), .ex (.int .i64 l.pit), .ex (.int .i64 l.fee), .ex (.int .i64 l.pen), .ex (.int .i64 l.chg), .ex (.int .i64 l.prov), .ex (.int .i64 l.loss), .ex (.int .i64 l.recd), .ex (.int .i64 l.t.method), .ex (.int .i64 l.t.prin), .ex (.int .i64 l.t.ppm), .ex (.int .i64 l.t.start), .ex (.int .i64 l.t.every), .ex (.int .i64 l.t.count), .ex (.int .i64 l.t.bal), .ex (.int .i64 l.t.mode), .ex (.int .i64 l.t.pen), .ex (.int .i64 l.t.fee), .ex (.string l.t.cal), .ex (.string l.t.cur), .sl (duesC l.dues), .sl []], .ex (.int .i64 n), .ex (.int .i64 on)] (.val (.tup [.agg [.ex (.int .i64 zeroLn.id), .ex (.int .i64 zeroLn.acc), .ex (.int .i64 zeroLn.st), .ex (.int .i64 zeroLn.pp), .ex (.int .i64 zeroLn.pit), .ex (.int .i64 zeroLn.fee), .ex (.int .i64 zeroLn.pen), .ex (.int .i64 zeroLn.chg), .ex (.int .i64 zeroLn.prov), .ex (.int .i64 zeroLn.loss), .ex (.int .i64 zeroLn.recd), .ex (.int .i64 zeroLn.t.method), .ex (.int .i64 zeroLn.t.prin), .ex (.int .i64 zeroLn.t.ppm), .ex (.int .i64 zeroLn.t.start), .ex (.int .i64 zeroLn.t.every), .ex (.int .i64 zeroLn.t.count), .ex (.int .i64 zeroLn.t.bal), .ex (.int .i64 zeroLn.t.mode), .ex (.int .i64 zeroLn.t.pen), .ex (.int .i64 zeroLn.t.fee), .ex (.string zeroLn.t.cal), .ex (.string zeroLn.t.cur), .sl (duesC zeroLn.dues), .sl []], .sl [], .ex (.int .i64 1)])) := by
  have a1 := LCheck_con l h
  have hn : ¬ n < 1 := by omega
  clear h
  (refine con_val base Tryz.func8 rfl rfl (by kernel_rfl) (Nat.le_of_ble_eq_true rfl) ?_; rw [init_eq])
  (repeat' (first | exact trivial | refine stq ?_ | (refine awp_ret ?_; simp only [then_ret, block_ret, end_ret]) | ((first | refine cv (a1) ?_ | refine stp ?_ | refine nqif_ways (fun h => ?_) ?_ | ((first | refine gif_ways (fun h => ?_) (fun h => ?_) | refine cif_ways (fun h => ?_) (fun h => ?_)) <;> (try simp only [sxn] at h) <;> (try (exfalso; omega)))) <;> (try (simp (maxSteps := 4000000) (disch := omega) only [sx, Value.oneCell', ↓reduceIte, Nat.reduceAdd, Nat.reduceMul, Nat.reduceEqDiff, Nat.reduceLT, Nat.reduceLeDiff, Int.reduceToNat, Int.reduceEq, Int.reduceLT, Int.reduceLE, Int.reduceNe, *])))))
  all_goals (refine rc4 rfl ?_)
  all_goals rfl
end Go.Proofs.YtcoflmckbcnlpaaGreatDoor
namespace Go.Proofs.YtcoflmckbcnlpaaGreatDoor
open Go.RowKit
set_option maxRecDepth 100000
set_option linter.unusedSimpArgs false
theorem reg13_new {tm : Nat → AV} {hp : Nat → Option Row1} {nx b3 b9 : Nat} {l : LoanV} {left n : Int} {k : Nat} {owed : List (Int × Int)} {Q : Exit → AS → Prop} (t3 : tm 3 = .pt b3 0 0) (t9 : tm 9 = .pt b9 0 0) (h3 : hp b3 = some ⟨32, [[.ex (.int .i64 l.id), .ex (.int .i64 l.acc), .ex (.int .i64 l.st), .ex (.int .i64 l.pp), .ex (.int .i64 l.pit), .ex (.int .i64 l.fee), .ex (.int .i64 l.pen), .ex (.int .i64 l.chg), .ex (.int .i64 l.prov), .ex (.int .i64 l.loss), .ex (.int .i64 l.recd), .ex (.int .i64 l.t.method), .ex (.int .i64 l.t.prin), .ex (.int .i64 l.t.ppm), .ex (.int .i64 l.t.start), .ex (.int .i64 l.t.every), .ex (.int .i64 l.t.count), .ex (.int .i64 l.t.bal), .ex (.int .i64 l.t.mode), .ex (.int .i64 l.t.pen), .ex (.int .i64 l.t.fee), .ex (.string l.t.cal), .ex (.string l.t.cur), .sl (duesC l.dues), .sl []]], true⟩) (h9 : hp b9 = some ⟨60, [[.ex (.int .i64 left), .sl (partsC owed), .ex (.slice none 0 0)]], true⟩) (hn3 : b3 < nx) (hn9 : b9 < nx) (h39 : b3 ≠ b9)
    (hi : idxB (isK 3) owed = k) (e : owed[k]? = some (3, n)) (hl : owed.length ≤ 10) (n0 : 0 < n) (n1 : n ≤ left) (n2 : left ≤ 1000000000000000) (g0 : 0 ≤ l.pit) (g1 : l.pit ≤ 1000000000000000)
    (hq : ∀ (tm' : Nat → AV) (H : Nat → Option Row1) (N s : Nat), tm' 3 = .pt b3 0 0 → tm' 9 = .pt b9 0 0 → tm' 6 = tm 6 → nx ≤ s → s < N → H b3 = some ⟨32, [[.ex (.int .i64 (({ l with pit := l.pit + n })).id), .ex (.int .i64 (({ l with pit := l.pit + n })).acc), .ex (.int .i64 (({ l with pit := l.pit + n })).st), .ex (.int .i64 (({ l with pit := l.pit + n })).pp), .ex (.int .i64 (({ l with pit := l.pit + n })).pit), .ex (.int .i64 (({ l with pit := l.pit + n })).fee), .ex (.int .i64 (({ l with pit := l.pit + n })).pen), .ex (.int .i64 (({ l with pit := l.pit + n })).chg), .ex (.int .i64 (({ l with pit := l.pit + n })).prov), .ex (.int .i64 (({ l with pit := l.pit + n })).loss), .ex (.int .i64 (({ l with pit := l.pit + n })).recd), .ex (.int .i64 (({ l with pit := l.pit + n })).t.method), .ex (.int .i64 (({ l with pit := l.pit + n })).t.prin), .ex (.int .i64 (({ l with pit := l.pit + n })).t.ppm), .ex (.int .i64 (({ l with pit := l.pit + n })).t.start), .ex (.int .i64 (({ l with pit := l.pit + n })).t.every), .ex (.int .i64 (({ l with pit := l.pit + n })).t.count), .ex (.int .i64 (({ l with pit := l.pit + n })).t.bal), .ex (.int .i64 (({ l with pit := l.pit + n })).t.mode), .ex (.int .i64 (({ l with pit := l.pit + n })).t.pen), .ex (.int .i64 (({ l with pit := l.pit + n })).t.fee), .ex (.string (({ l with pit := l.pit + n })).t.cal), .ex (.string (({ l with pit := l.pit + n })).t.cur), .sl (duesC (({ l with pit := l.pit + n })).dues), .sl []]], true⟩ → H b9 = some ⟨60, [[.ex (.int .i64 (left - n)), .sl (partsC owed), .own s]], true⟩ → H s = some ⟨64, [[.ex (.int .i64 3), .ex (.int .i64 n)]], true⟩ → (∀ j, j < nx → j ≠ b3 → j ≠ b9 → H j = hp j) → Q .normal ⟨tm', H, N⟩) :
    awp Tryz.prog CtxP (.region 13 pay13_ops true) Q ⟨tm, hp, nx⟩ := by
  obtain ⟨H1, N1, s, c1, ⟨c2, c2'⟩, c3, c4, c5⟩ := take_new (nx := nx + 7) h9 (by omega) hi e hl n0 n1 n2
  refine pay13 base (l := l) (n := n) t3 t9 h3 c1 (by omega) ((c5 b3 (by omega) h39).trans h3) g0 g1 (by omega) (by omega) fun tm' e3 e9 e6 => ?_
  exact hq tm' _ _ s e3 e9 e6 (by omega) (by omega) (upd_same _ _ _) ((upd_ne _ _ fun h => h39 h.symm).trans c4) ((upd_ne _ _ (by omega)).trans c3) fun j hj h3' h9' => by rw [upd_ne _ _ h3']; exact c5 j (by omega) h9'
theorem reg14_new {tm : Nat → AV} {hp : Nat → Option Row1} {nx b3 b9 : Nat} {l : LoanV} {left n : Int} {k : Nat} {owed : List (Int × Int)} {Q : Exit → AS → Prop} (t3 : tm 3 = .pt b3 0 0) (t9 : tm 9 = .pt b9 0 0) (h3 : hp b3 = some ⟨32, [[.ex (.int .i64 l.id), .ex (.int .i64 l.acc), .ex (.int .i64 l.st), .ex (.int .i64 l.pp), .ex (.int .i64 l.pit), .ex (.int .i64 l.fee), .ex (.int .i64 l.pen), .ex (.int .i64 l.chg), .ex (.int .i64 l.prov), .ex (.int .i64 l.loss), .ex (.int .i64 l.recd), .ex (.int .i64 l.t.method), .ex (.int .i64 l.t.prin), .ex (.int .i64 l.t.ppm), .ex (.int .i64 l.t.start), .ex (.int .i64 l.t.every), .ex (.int .i64 l.t.count), .ex (.int .i64 l.t.bal), .ex (.int .i64 l.t.mode), .ex (.int .i64 l.t.pen), .ex (.int .i64 l.t.fee), .ex (.string l.t.cal), .ex (.string l.t.cur), .sl (duesC l.dues), .sl []]], true⟩) (h9 : hp b9 = some ⟨60, [[.ex (.int .i64 left), .sl (partsC owed), .ex (.slice none 0 0)]], true⟩) (hn3 : b3 < nx) (hn9 : b9 < nx) (h39 : b3 ≠ b9)
    (hi : idxB (isK 4) owed = k) (e : owed[k]? = some (4, n)) (hl : owed.length ≤ 10) (n0 : 0 < n) (n1 : n ≤ left) (n2 : left ≤ 1000000000000000) (g0 : 0 ≤ l.pp) (g1 : l.pp ≤ 1000000000000000)
    (hq : ∀ (tm' : Nat → AV) (H : Nat → Option Row1) (N s : Nat), tm' 3 = .pt b3 0 0 → tm' 9 = .pt b9 0 0 → tm' 6 = tm 6 → nx ≤ s → s < N → H b3 = some ⟨32, [[.ex (.int .i64 (({ l with pp := l.pp + n })).id), .ex (.int .i64 (({ l with pp := l.pp + n })).acc), .ex (.int .i64 (({ l with pp := l.pp + n })).st), .ex (.int .i64 (({ l with pp := l.pp + n })).pp), .ex (.int .i64 (({ l with pp := l.pp + n })).pit), .ex (.int .i64 (({ l with pp := l.pp + n })).fee), .ex (.int .i64 (({ l with pp := l.pp + n })).pen), .ex (.int .i64 (({ l with pp := l.pp + n })).chg), .ex (.int .i64 (({ l with pp := l.pp + n })).prov), .ex (.int .i64 (({ l with pp := l.pp + n })).loss), .ex (.int .i64 (({ l with pp := l.pp + n })).recd), .ex (.int .i64 (({ l with pp := l.pp + n })).t.method), .ex (.int .i64 (({ l with pp := l.pp + n })).t.prin), .ex (.int .i64 (({ l with pp := l.pp + n })).t.ppm), .ex (.int .i64 (({ l with pp := l.pp + n })).t.start), .ex (.int .i64 (({ l with pp := l.pp + n })).t.every), .ex (.int .i64 (({ l with pp := l.pp + n })).t.count), .ex (.int .i64 (({ l with pp := l.pp + n })).t.bal), .ex (.int .i64 (({ l with pp := l.pp + n })).t.mode), .ex (.int .i64 (({ l with pp := l.pp + n })).t.pen), .ex (.int .i64 (({ l with pp := l.pp + n })).t.fee), .ex (.string (({ l with pp := l.pp + n })).t.cal), .ex (.string (({ l with pp := l.pp + n })).t.cur), .sl (duesC (({ l with pp := l.pp + n })).dues), .sl []]], true⟩ → H b9 = some ⟨60, [[.ex (.int .i64 (left - n)), .sl (partsC owed), .own s]], true⟩ → H s = some ⟨64, [[.ex (.int .i64 4), .ex (.int .i64 n)]], true⟩ → (∀ j, j < nx → j ≠ b3 → j ≠ b9 → H j = hp j) → Q .normal ⟨tm', H, N⟩) :
    awp Tryz.prog CtxP (.region 14 pay14_ops true) Q ⟨tm, hp, nx⟩ := by
  obtain ⟨H1, N1, s, c1, ⟨c2, c2'⟩, c3, c4, c5⟩ := take_new (nx := nx + 7) h9 (by omega) hi e hl n0 n1 n2
  refine pay14 base (l := l) (n := n) t3 t9 h3 c1 (by omega) ((c5 b3 (by omega) h39).trans h3) g0 g1 (by omega) (by omega) fun tm' e3 e9 e6 => ?_
  exact hq tm' _ _ s e3 e9 e6 (by omega) (by omega) (upd_same _ _ _) ((upd_ne _ _ fun h => h39 h.symm).trans c4) ((upd_ne _ _ (by omega)).trans c3) fun j hj h3' h9' => by rw [upd_ne _ _ h3']; exact c5 j (by omega) h9'
theorem reg14_next {tm : Nat → AV} {hp : Nat → Option Row1} {nx b3 b9 : Nat} {l : LoanV} {left n : Int} {k : Nat} {owed ps : List (Int × Int)} {Q : Exit → AS → Prop} (t3 : tm 3 = .pt b3 0 0) (t9 : tm 9 = .pt b9 0 0) (h3 : hp b3 = some ⟨32, [[.ex (.int .i64 l.id), .ex (.int .i64 l.acc), .ex (.int .i64 l.st), .ex (.int .i64 l.pp), .ex (.int .i64 l.pit), .ex (.int .i64 l.fee), .ex (.int .i64 l.pen), .ex (.int .i64 l.chg), .ex (.int .i64 l.prov), .ex (.int .i64 l.loss), .ex (.int .i64 l.recd), .ex (.int .i64 l.t.method), .ex (.int .i64 l.t.prin), .ex (.int .i64 l.t.ppm), .ex (.int .i64 l.t.start), .ex (.int .i64 l.t.every), .ex (.int .i64 l.t.count), .ex (.int .i64 l.t.bal), .ex (.int .i64 l.t.mode), .ex (.int .i64 l.t.pen), .ex (.int .i64 l.t.fee), .ex (.string l.t.cal), .ex (.string l.t.cur), .sl (duesC l.dues), .sl []]], true⟩) {r : Nat} (hr : hp r = some ⟨64, partsC ps, true⟩) (hrn : r < nx) (hbr : b9 ≠ r) (h3r : b3 ≠ r) (hps : ps.length ≤ 10) (h9 : hp b9 = some ⟨60, [[.ex (.int .i64 left), .sl (partsC owed), .own r]], true⟩) (hn3 : b3 < nx) (hn9 : b9 < nx) (h39 : b3 ≠ b9)
    (hi : idxB (isK 4) owed = k) (e : owed[k]? = some (4, n)) (hl : owed.length ≤ 10) (n0 : 0 < n) (n1 : n ≤ left) (n2 : left ≤ 1000000000000000) (g0 : 0 ≤ l.pp) (g1 : l.pp ≤ 1000000000000000)
    (hq : ∀ (tm' : Nat → AV) (H : Nat → Option Row1) (N s : Nat), tm' 3 = .pt b3 0 0 → tm' 9 = .pt b9 0 0 → tm' 6 = tm 6 → nx ≤ s → s < N → H b3 = some ⟨32, [[.ex (.int .i64 (({ l with pp := l.pp + n })).id), .ex (.int .i64 (({ l with pp := l.pp + n })).acc), .ex (.int .i64 (({ l with pp := l.pp + n })).st), .ex (.int .i64 (({ l with pp := l.pp + n })).pp), .ex (.int .i64 (({ l with pp := l.pp + n })).pit), .ex (.int .i64 (({ l with pp := l.pp + n })).fee), .ex (.int .i64 (({ l with pp := l.pp + n })).pen), .ex (.int .i64 (({ l with pp := l.pp + n })).chg), .ex (.int .i64 (({ l with pp := l.pp + n })).prov), .ex (.int .i64 (({ l with pp := l.pp + n })).loss), .ex (.int .i64 (({ l with pp := l.pp + n })).recd), .ex (.int .i64 (({ l with pp := l.pp + n })).t.method), .ex (.int .i64 (({ l with pp := l.pp + n })).t.prin), .ex (.int .i64 (({ l with pp := l.pp + n })).t.ppm), .ex (.int .i64 (({ l with pp := l.pp + n })).t.start), .ex (.int .i64 (({ l with pp := l.pp + n })).t.every), .ex (.int .i64 (({ l with pp := l.pp + n })).t.count), .ex (.int .i64 (({ l with pp := l.pp + n })).t.bal), .ex (.int .i64 (({ l with pp := l.pp + n })).t.mode), .ex (.int .i64 (({ l with pp := l.pp + n })).t.pen), .ex (.int .i64 (({ l with pp := l.pp + n })).t.fee), .ex (.string (({ l with pp := l.pp + n })).t.cal), .ex (.string (({ l with pp := l.pp + n })).t.cur), .sl (duesC (({ l with pp := l.pp + n })).dues), .sl []]], true⟩ → H b9 = some ⟨60, [[.ex (.int .i64 (left - n)), .sl (partsC owed), .own s]], true⟩ → H s = some ⟨64, partsC ps ++ [[.ex (.int .i64 4), .ex (.int .i64 n)]], true⟩ → (∀ j, j < nx → j ≠ b3 → j ≠ b9 → j ≠ r → H j = hp j) → Q .normal ⟨tm', H, N⟩) :
    awp Tryz.prog CtxP (.region 14 pay14_ops true) Q ⟨tm, hp, nx⟩ := by
  obtain ⟨H1, N1, s, c1, ⟨c2, c2'⟩, c3, c4, c5⟩ := take_next (nx := nx + 7) h9 hr (by omega) (by omega) hbr hps hi e hl n0 n1 n2
  refine pay14 base (l := l) (n := n) t3 t9 h3 c1 (by omega) ((c5 b3 (by omega) h39 h3r).trans h3) g0 g1 (by omega) (by omega) fun tm' e3 e9 e6 => ?_
  exact hq tm' _ _ s e3 e9 e6 (by omega) (by omega) (upd_same _ _ _) ((upd_ne _ _ fun h => h39 h.symm).trans c4) ((upd_ne _ _ (by omega)).trans c3) fun j hj h3' h9' hr' => by rw [upd_ne _ _ h3']; exact c5 j (by omega) h9' hr'
theorem reg14_none {tm : Nat → AV} {hp : Nat → Option Row1} {nx b3 b9 : Nat} {l : LoanV} {left n : Int} {k : Nat} {owed : List (Int × Int)} {Q : Exit → AS → Prop} (t3 : tm 3 = .pt b3 0 0) (t9 : tm 9 = .pt b9 0 0) (h3 : hp b3 = some ⟨32, [[.ex (.int .i64 l.id), .ex (.int .i64 l.acc), .ex (.int .i64 l.st), .ex (.int .i64 l.pp), .ex (.int .i64 l.pit), .ex (.int .i64 l.fee), .ex (.int .i64 l.pen), .ex (.int .i64 l.chg), .ex (.int .i64 l.prov), .ex (.int .i64 l.loss), .ex (.int .i64 l.recd), .ex (.int .i64 l.t.method), .ex (.int .i64 l.t.prin), .ex (.int .i64 l.t.ppm), .ex (.int .i64 l.t.start), .ex (.int .i64 l.t.every), .ex (.int .i64 l.t.count), .ex (.int .i64 l.t.bal), .ex (.int .i64 l.t.mode), .ex (.int .i64 l.t.pen), .ex (.int .i64 l.t.fee), .ex (.string l.t.cal), .ex (.string l.t.cur), .sl (duesC l.dues), .sl []]], true⟩) {y : AV} (h9 : hp b9 = some ⟨60, [[.ex (.int .i64 left), .sl (partsC owed), y]], true⟩) (hn3 : b3 < nx) (hn9 : b9 < nx) (h39 : b3 ≠ b9)
    (hi : idxB (isK 4) owed = -1) (hl : owed.length ≤ 10) (g0 : 0 ≤ l.pp) (g1 : l.pp ≤ 1000000000000000)
    (hq : ∀ (tm' : Nat → AV) (H : Nat → Option Row1) (N : Nat), tm' 3 = .pt b3 0 0 → tm' 9 = .pt b9 0 0 → tm' 6 = tm 6 → nx ≤ N → H b3 = some ⟨32, [[.ex (.int .i64 (({ l with pp := l.pp + 0 })).id), .ex (.int .i64 (({ l with pp := l.pp + 0 })).acc), .ex (.int .i64 (({ l with pp := l.pp + 0 })).st), .ex (.int .i64 (({ l with pp := l.pp + 0 })).pp), .ex (.int .i64 (({ l with pp := l.pp + 0 })).pit), .ex (.int .i64 (({ l with pp := l.pp + 0 })).fee), .ex (.int .i64 (({ l with pp := l.pp + 0 })).pen), .ex (.int .i64 (({ l with pp := l.pp + 0 })).chg), .ex (.int .i64 (({ l with pp := l.pp + 0 })).prov), .ex (.int .i64 (({ l with pp := l.pp + 0 })).loss), .ex (.int .i64 (({ l with pp := l.pp + 0 })).recd), .ex (.int .i64 (({ l with pp := l.pp + 0 })).t.method), .ex (.int .i64 (({ l with pp := l.pp + 0 })).t.prin), .ex (.int .i64 (({ l with pp := l.pp + 0 })).t.ppm), .ex (.int .i64 (({ l with pp := l.pp + 0 })).t.start), .ex (.int .i64 (({ l with pp := l.pp + 0 })).t.every), .ex (.int .i64 (({ l with pp := l.pp + 0 })).t.count), .ex (.int .i64 (({ l with pp := l.pp + 0 })).t.bal), .ex (.int .i64 (({ l with pp := l.pp + 0 })).t.mode), .ex (.int .i64 (({ l with pp := l.pp + 0 })).t.pen), .ex (.int .i64 (({ l with pp := l.pp + 0 })).t.fee), .ex (.string (({ l with pp := l.pp + 0 })).t.cal), .ex (.string (({ l with pp := l.pp + 0 })).t.cur), .sl (duesC (({ l with pp := l.pp + 0 })).dues), .sl []]], true⟩ → (∀ j, j < nx → j ≠ b3 → H j = hp j) → Q .normal ⟨tm', H, N⟩) :
    awp Tryz.prog CtxP (.region 14 pay14_ops true) Q ⟨tm, hp, nx⟩ := by
  obtain ⟨H1, N1, c1, c2, c3⟩ := take_none (nx := nx + 7) h9 (by omega) hi hl
  refine pay14 base (l := l) (n := 0) t3 t9 h3 c1 (by omega) ((c3 b3 (by omega)).trans h3) g0 g1 (by decide) (by decide) fun tm' e3 e9 e6 => ?_
  exact hq tm' _ _ e3 e9 e6 (by omega) (upd_same _ _ _) fun j hj h3' => by rw [upd_ne _ _ h3']; exact c3 j (by omega)
noncomputable def pay20_ops : Array Oper := ((Tryz.f8.body.bind (regOf 20)).getD #[])
noncomputable def pay20_vs (l : LoanV) (b9 x y r : Nat) : Nat → AV := fun i =>
  [.agg [.ex (.int .i64 l.id), .ex (.int .i64 l.acc), .ex (.int .i64 l.st), .ex (.int .i64 l.pp), .ex (.int .i64 l.pit), .ex (.int .i64 l.fee), .ex (.int .i64 l.pen), .ex (.int .i64 l.chg), .ex (.int .i64 l.prov), .ex (.int .i64 l.loss), .ex (.int .i64 l.recd), .ex (.int .i64 l.t.method), .ex (.int .i64 l.t.prin), .ex (.int .i64 l.t.ppm), .ex (.int .i64 l.t.start), .ex (.int .i64 l.t.every), .ex (.int .i64 l.t.count), .ex (.int .i64 l.t.bal), .ex (.int .i64 l.t.mode), .ex (.int .i64 l.t.pen), .ex (.int .i64 l.t.fee), .ex (.string l.t.cal), .ex (.string l.t.cur), .own x, .own y], .pt b9 0 0, .pt b9 0 0, .pt b9 0 2, .own r, .junk, .own r, .ex (.int .i64 0)].getD i .und
set_option maxHeartbeats 4000000 in
theorem pay20 {C : World → Prop} (Bs : Base Tryz.prog C) {tm : Nat → AV} {hp : Nat → Option Row1} {nx b3 b9 b6 x y r : Nat} {l : LoanV} {u v : AV} {Q : Exit → AS → Prop} (t3 : tm 3 = .pt b3 0 0) (t9 : tm 9 = .pt b9 0 0) (t6 : tm 6 = .pt b6 0 0) (h3 : hp b3 = some ⟨32, [[.ex (.int .i64 l.id), .ex (.int .i64 l.acc), .ex (.int .i64 l.st), .ex (.int .i64 l.pp), .ex (.int .i64 l.pit), .ex (.int .i64 l.fee), .ex (.int .i64 l.pen), .ex (.int .i64 l.chg), .ex (.int .i64 l.prov), .ex (.int .i64 l.loss), .ex (.int .i64 l.recd), .ex (.int .i64 l.t.method), .ex (.int .i64 l.t.prin), .ex (.int .i64 l.t.ppm), .ex (.int .i64 l.t.start), .ex (.int .i64 l.t.every), .ex (.int .i64 l.t.count), .ex (.int .i64 l.t.bal), .ex (.int .i64 l.t.mode), .ex (.int .i64 l.t.pen), .ex (.int .i64 l.t.fee), .ex (.string l.t.cal), .ex (.string l.t.cur), .own x, .own y]], true⟩) (h9 : hp b9 = some ⟨60, [[u, v, .own r]], true⟩)
    (h6 : hp b6 = some ⟨32, [[.ex (.int .i64 0), .ex (.int .i64 0), .ex (.int .i64 0), .ex (.int .i64 0), .ex (.int .i64 0), .ex (.int .i64 0), .ex (.int .i64 0), .ex (.int .i64 0), .ex (.int .i64 0), .ex (.int .i64 0), .ex (.int .i64 0), .ex (.int .i64 0), .ex (.int .i64 0), .ex (.int .i64 0), .ex (.int .i64 0), .ex (.int .i64 0), .ex (.int .i64 0), .ex (.int .i64 0), .ex (.int .i64 0), .ex (.int .i64 0), .ex (.int .i64 0), .ex (.string ⟨#[]⟩), .ex (.string ⟨#[]⟩), .ex (.slice none 0 0), .ex (.slice none 0 0)]], true⟩) (h96 : b9 ≠ b6) (h36 : b3 ≠ b6) (hq : ∀ tm' : Nat → AV, tm' 6 = .pt b6 0 0 → tm' 7 = .own r → tm' 8 = .ex (.int .i64 0) → Q .normal ⟨tm', upd hp b6 (some ⟨32, [[.ex (.int .i64 l.id), .ex (.int .i64 l.acc), .ex (.int .i64 l.st), .ex (.int .i64 l.pp), .ex (.int .i64 l.pit), .ex (.int .i64 l.fee), .ex (.int .i64 l.pen), .ex (.int .i64 l.chg), .ex (.int .i64 l.prov), .ex (.int .i64 l.loss), .ex (.int .i64 l.recd), .ex (.int .i64 l.t.method), .ex (.int .i64 l.t.prin), .ex (.int .i64 l.t.ppm), .ex (.int .i64 l.t.start), .ex (.int .i64 l.t.every), .ex (.int .i64 l.t.count), .ex (.int .i64 l.t.bal), .ex (.int .i64 l.t.mode), .ex (.int .i64 l.t.pen), .ex (.int .i64 l.t.fee), .ex (.string l.t.cal), .ex (.string l.t.cur), .own x, .own y]], true⟩), nx + 8⟩) :
    awp Tryz.prog C (.region 20 pay20_ops true) Q ⟨tm, hp, nx⟩ := by
  have hO : Ord pay20_ops pay20_ops.size := ord_of (by kernel_rfl)
  refine region_chain Bs (vs := (pay20_vs l b9 x y r)) (ch := [5]) (H := fun c => bif Nat.beq c 0 then hp else upd hp b6 (some ⟨32, [[.ex (.int .i64 l.id), .ex (.int .i64 l.acc), .ex (.int .i64 l.st), .ex (.int .i64 l.pp), .ex (.int .i64 l.pit), .ex (.int .i64 l.fee), .ex (.int .i64 l.pen), .ex (.int .i64 l.chg), .ex (.int .i64 l.prov), .ex (.int .i64 l.loss), .ex (.int .i64 l.recd), .ex (.int .i64 l.t.method), .ex (.int .i64 l.t.prin), .ex (.int .i64 l.t.ppm), .ex (.int .i64 l.t.start), .ex (.int .i64 l.t.every), .ex (.int .i64 l.t.count), .ex (.int .i64 l.t.bal), .ex (.int .i64 l.t.mode), .ex (.int .i64 l.t.pen), .ex (.int .i64 l.t.fee), .ex (.string l.t.cal), .ex (.string l.t.cur), .own x, .own y]], true⟩)) (B := fun c => nx) hO ?_ ?_
  · refine ⟨rfl, rfl, ?_, ?_, by simp, ?_, ?_, ?_, ?_⟩
    · intro c hc
      have hc : c ≤ 1 := hc
      have : c = 0 ∨ c = 1 := by omega
      rcases this with rfl | rfl <;> first | exact Nat.le_refl _ | exact Nat.le_refl _
    · intro h hh
      simp only [List.mem_cons, List.not_mem_nil, or_false] at hh
      rcases hh with rfl <;> exact Nat.le_of_ble_eq_true (by kernel_rfl)
    · have hms := masks_reach (ops := pay20_ops) pay20_ops.toList [] (fun j => by simp) (fun j i hb => by simp at hb)
      intro m h h' hm hm'
      simp at hm'
    · intro o ho
      have : (pay20_ops.toList.all fun o => o.guard.isNone) = true := by kernel_rfl
      have := List.all_eq_true.1 this o ho
      simpa using this
    · intro m h o hm ho
      have hlt : m < 1 := by have := (List.getElem?_eq_some_iff.1 hm).1; simpa using this
      have : m = 0 := by omega
      rcases this with rfl
      · cases (show some 5 = some h from hm)
        cases ho
        have e6 : tmAt pay20_ops pay20_ops.size (pay20_vs l b9 x y r) tm (fun q => decide (q < 5)) 6 = .pt b6 0 0 := by rw [← t6]; kernel_rfl
        have e102 : tmAt pay20_ops pay20_ops.size (pay20_vs l b9 x y r) tm (fun q => decide (q < 5)) 102 = .agg [.ex (.int .i64 l.id), .ex (.int .i64 l.acc), .ex (.int .i64 l.st), .ex (.int .i64 l.pp), .ex (.int .i64 l.pit), .ex (.int .i64 l.fee), .ex (.int .i64 l.pen), .ex (.int .i64 l.chg), .ex (.int .i64 l.prov), .ex (.int .i64 l.loss), .ex (.int .i64 l.recd), .ex (.int .i64 l.t.method), .ex (.int .i64 l.t.prin), .ex (.int .i64 l.t.ppm), .ex (.int .i64 l.t.start), .ex (.int .i64 l.t.every), .ex (.int .i64 l.t.count), .ex (.int .i64 l.t.bal), .ex (.int .i64 l.t.mode), .ex (.int .i64 l.t.pen), .ex (.int .i64 l.t.fee), .ex (.string l.t.cal), .ex (.string l.t.cur), .own x, .own y] := by kernel_rfl
        generalize hT : tmAt pay20_ops pay20_ops.size (pay20_vs l b9 x y r) tm (fun q => decide (q < 5)) = T at *
        refine .inl ⟨.set b6 ⟨32, [[.ex (.int .i64 l.id), .ex (.int .i64 l.acc), .ex (.int .i64 l.st), .ex (.int .i64 l.pp), .ex (.int .i64 l.pit), .ex (.int .i64 l.fee), .ex (.int .i64 l.pen), .ex (.int .i64 l.chg), .ex (.int .i64 l.prov), .ex (.int .i64 l.loss), .ex (.int .i64 l.recd), .ex (.int .i64 l.t.method), .ex (.int .i64 l.t.prin), .ex (.int .i64 l.t.ppm), .ex (.int .i64 l.t.start), .ex (.int .i64 l.t.every), .ex (.int .i64 l.t.count), .ex (.int .i64 l.t.bal), .ex (.int .i64 l.t.mode), .ex (.int .i64 l.t.pen), .ex (.int .i64 l.t.fee), .ex (.string l.t.cal), .ex (.string l.t.cur), .own x, .own y]], true⟩, ?_, rfl, rfl⟩
        show aval Tryz.prog C ((nx) + 5) (.store 32 (.tmp 6) (.tmp 102)) _ (AS.ev ⟨T, fun _ => none, 0⟩) (hp) _
        simp (disch := omega) only [sx, Value.oneCell', ↓reduceIte, Nat.reduceAdd, Nat.reduceMul, Nat.reduceEqDiff, Nat.reduceLT, Nat.reduceLeDiff, Int.reduceToNat, Int.reduceEq, Int.reduceLT, Int.reduceLE, Int.reduceNe, e6, e102, h3, h9, h6, h96, h36]
        first | exact ⟨rfl, rfl⟩ | trivial | rfl | exact ⟨by omega, rfl⟩ | exact ⟨by omega, rfl, rfl⟩ | (trace_state; simp)
    · have hms := masks_reach (ops := pay20_ops) pay20_ops.toList [] (fun j => by simp) (fun j i hb => by simp at hb)
      intro i o ho hni c hc hcc
      have hc : c ≤ 1 := hc
      have hi : i < 8 := (Array.getElem?_eq_some_iff.1 ho).1
      have hi' : i = 0 ∨ i = 1 ∨ i = 2 ∨ i = 3 ∨ i = 4 ∨ i = 6 ∨ i = 7 := by
        have : i ≠ 5 := by simpa using hni
        omega
      clear hi
      rcases hi' with rfl | rfl | rfl | rfl | rfl | rfl | rfl
      · cases ho
        have l2 := (hcc 0 5 rfl).2 (hms 5 0 (by decide +kernel))
        have e3 : tmAt pay20_ops pay20_ops.size (pay20_vs l b9 x y r) tm (fun q => decide (q < 0)) 3 = .pt b3 0 0 := by rw [← t3]; kernel_rfl
        generalize hT : tmAt pay20_ops pay20_ops.size (pay20_vs l b9 x y r) tm (fun q => decide (q < 0)) = T at *
        have hcs : c = 0 := by omega
        clear hcc hc l2
        rcases hcs with rfl
        · refine .inl ?_
          show aval Tryz.prog C ((nx) + 0) (.load 32 (.tmp 3)) _ (AS.ev ⟨T, fun _ => none, 0⟩) (hp) _
          simp (disch := omega) only [sx, Value.oneCell', ↓reduceIte, Nat.reduceAdd, Nat.reduceMul, Nat.reduceEqDiff, Nat.reduceLT, Nat.reduceLeDiff, Int.reduceToNat, Int.reduceEq, Int.reduceLT, Int.reduceLE, Int.reduceNe, e3, h3, h9, h6, h96, h36]
          first | exact ⟨rfl, .inl trivial⟩ | exact ⟨rfl, .inl rfl⟩ | exact ⟨trivial, .inl trivial⟩ | exact .inl trivial | exact .inl rfl | exact ⟨rfl, .inr rfl⟩ | trivial | simp
      · cases ho
        have e9 : tmAt pay20_ops pay20_ops.size (pay20_vs l b9 x y r) tm (fun q => decide (q < 1)) 9 = .pt b9 0 0 := by rw [← t9]; kernel_rfl
        generalize hT : tmAt pay20_ops pay20_ops.size (pay20_vs l b9 x y r) tm (fun q => decide (q < 1)) = T at *
        have hcs : c = 0 ∨ c = 1 := by omega
        clear hcc hc
        rcases hcs with rfl | rfl
        · refine .inl ?_
          show aval Tryz.prog C ((nx) + 1) (.move (.tmp 9)) _ (AS.ev ⟨T, fun _ => none, 0⟩) (hp) _
          simp (disch := omega) only [sx, Value.oneCell', ↓reduceIte, Nat.reduceAdd, Nat.reduceMul, Nat.reduceEqDiff, Nat.reduceLT, Nat.reduceLeDiff, Int.reduceToNat, Int.reduceEq, Int.reduceLT, Int.reduceLE, Int.reduceNe, e9, h3, h9, h6, h96, h36]
          first | exact ⟨rfl, .inl trivial⟩ | exact ⟨rfl, .inl rfl⟩ | exact ⟨trivial, .inl trivial⟩ | exact .inl trivial | exact .inl rfl | exact ⟨rfl, .inr rfl⟩ | trivial | simp
        · refine .inl ?_
          show aval Tryz.prog C ((nx) + 1) (.move (.tmp 9)) _ (AS.ev ⟨T, fun _ => none, 0⟩) (upd hp b6 (some ⟨32, [[.ex (.int .i64 l.id), .ex (.int .i64 l.acc), .ex (.int .i64 l.st), .ex (.int .i64 l.pp), .ex (.int .i64 l.pit), .ex (.int .i64 l.fee), .ex (.int .i64 l.pen), .ex (.int .i64 l.chg), .ex (.int .i64 l.prov), .ex (.int .i64 l.loss), .ex (.int .i64 l.recd), .ex (.int .i64 l.t.method), .ex (.int .i64 l.t.prin), .ex (.int .i64 l.t.ppm), .ex (.int .i64 l.t.start), .ex (.int .i64 l.t.every), .ex (.int .i64 l.t.count), .ex (.int .i64 l.t.bal), .ex (.int .i64 l.t.mode), .ex (.int .i64 l.t.pen), .ex (.int .i64 l.t.fee), .ex (.string l.t.cal), .ex (.string l.t.cur), .own x, .own y]], true⟩)) _
          simp (disch := omega) only [sx, Value.oneCell', ↓reduceIte, Nat.reduceAdd, Nat.reduceMul, Nat.reduceEqDiff, Nat.reduceLT, Nat.reduceLeDiff, Int.reduceToNat, Int.reduceEq, Int.reduceLT, Int.reduceLE, Int.reduceNe, e9, h3, h9, h6, h96, h36]
          first | exact ⟨rfl, .inl trivial⟩ | exact ⟨rfl, .inl rfl⟩ | exact ⟨trivial, .inl trivial⟩ | exact .inl trivial | exact .inl rfl | exact ⟨rfl, .inr rfl⟩ | trivial | simp
      · cases ho
        have e103 : tmAt pay20_ops pay20_ops.size (pay20_vs l b9 x y r) tm (fun q => decide (q < 2)) 103 = .pt b9 0 0 := by kernel_rfl
        generalize hT : tmAt pay20_ops pay20_ops.size (pay20_vs l b9 x y r) tm (fun q => decide (q < 2)) = T at *
        have hcs : c = 0 ∨ c = 1 := by omega
        clear hcc hc
        rcases hcs with rfl | rfl
        · refine .inl ?_
          show aval Tryz.prog C ((nx) + 2) (.nilCheck (.tmp 103)) _ (AS.ev ⟨T, fun _ => none, 0⟩) (hp) _
          simp (disch := omega) only [sx, Value.oneCell', ↓reduceIte, Nat.reduceAdd, Nat.reduceMul, Nat.reduceEqDiff, Nat.reduceLT, Nat.reduceLeDiff, Int.reduceToNat, Int.reduceEq, Int.reduceLT, Int.reduceLE, Int.reduceNe, e103, h3, h9, h6, h96, h36]
          first | exact ⟨rfl, .inl trivial⟩ | exact ⟨rfl, .inl rfl⟩ | exact ⟨trivial, .inl trivial⟩ | exact .inl trivial | exact .inl rfl | exact ⟨rfl, .inr rfl⟩ | trivial | simp
        · refine .inl ?_
          show aval Tryz.prog C ((nx) + 2) (.nilCheck (.tmp 103)) _ (AS.ev ⟨T, fun _ => none, 0⟩) (upd hp b6 (some ⟨32, [[.ex (.int .i64 l.id), .ex (.int .i64 l.acc), .ex (.int .i64 l.st), .ex (.int .i64 l.pp), .ex (.int .i64 l.pit), .ex (.int .i64 l.fee), .ex (.int .i64 l.pen), .ex (.int .i64 l.chg), .ex (.int .i64 l.prov), .ex (.int .i64 l.loss), .ex (.int .i64 l.recd), .ex (.int .i64 l.t.method), .ex (.int .i64 l.t.prin), .ex (.int .i64 l.t.ppm), .ex (.int .i64 l.t.start), .ex (.int .i64 l.t.every), .ex (.int .i64 l.t.count), .ex (.int .i64 l.t.bal), .ex (.int .i64 l.t.mode), .ex (.int .i64 l.t.pen), .ex (.int .i64 l.t.fee), .ex (.string l.t.cal), .ex (.string l.t.cur), .own x, .own y]], true⟩)) _
          simp (disch := omega) only [sx, Value.oneCell', ↓reduceIte, Nat.reduceAdd, Nat.reduceMul, Nat.reduceEqDiff, Nat.reduceLT, Nat.reduceLeDiff, Int.reduceToNat, Int.reduceEq, Int.reduceLT, Int.reduceLE, Int.reduceNe, e103, h3, h9, h6, h96, h36]
          first | exact ⟨rfl, .inl trivial⟩ | exact ⟨rfl, .inl rfl⟩ | exact ⟨trivial, .inl trivial⟩ | exact .inl trivial | exact .inl rfl | exact ⟨rfl, .inr rfl⟩ | trivial | simp
      · cases ho
        have e104 : tmAt pay20_ops pay20_ops.size (pay20_vs l b9 x y r) tm (fun q => decide (q < 3)) 104 = .pt b9 0 0 := by kernel_rfl
        generalize hT : tmAt pay20_ops pay20_ops.size (pay20_vs l b9 x y r) tm (fun q => decide (q < 3)) = T at *
        have hcs : c = 0 ∨ c = 1 := by omega
        clear hcc hc
        rcases hcs with rfl | rfl
        · refine .inl ?_
          show aval Tryz.prog C ((nx) + 3) (.fieldAddr 60 (.tmp 104) 2) _ (AS.ev ⟨T, fun _ => none, 0⟩) (hp) _
          simp (disch := omega) only [sx, Value.oneCell', ↓reduceIte, Nat.reduceAdd, Nat.reduceMul, Nat.reduceEqDiff, Nat.reduceLT, Nat.reduceLeDiff, Int.reduceToNat, Int.reduceEq, Int.reduceLT, Int.reduceLE, Int.reduceNe, e104, h3, h9, h6, h96, h36]
          first | exact ⟨rfl, .inl trivial⟩ | exact ⟨rfl, .inl rfl⟩ | exact ⟨trivial, .inl trivial⟩ | exact .inl trivial | exact .inl rfl | exact ⟨rfl, .inr rfl⟩ | trivial | simp
        · refine .inl ?_
          show aval Tryz.prog C ((nx) + 3) (.fieldAddr 60 (.tmp 104) 2) _ (AS.ev ⟨T, fun _ => none, 0⟩) (upd hp b6 (some ⟨32, [[.ex (.int .i64 l.id), .ex (.int .i64 l.acc), .ex (.int .i64 l.st), .ex (.int .i64 l.pp), .ex (.int .i64 l.pit), .ex (.int .i64 l.fee), .ex (.int .i64 l.pen), .ex (.int .i64 l.chg), .ex (.int .i64 l.prov), .ex (.int .i64 l.loss), .ex (.int .i64 l.recd), .ex (.int .i64 l.t.method), .ex (.int .i64 l.t.prin), .ex (.int .i64 l.t.ppm), .ex (.int .i64 l.t.start), .ex (.int .i64 l.t.every), .ex (.int .i64 l.t.count), .ex (.int .i64 l.t.bal), .ex (.int .i64 l.t.mode), .ex (.int .i64 l.t.pen), .ex (.int .i64 l.t.fee), .ex (.string l.t.cal), .ex (.string l.t.cur), .own x, .own y]], true⟩)) _
          simp (disch := omega) only [sx, Value.oneCell', ↓reduceIte, Nat.reduceAdd, Nat.reduceMul, Nat.reduceEqDiff, Nat.reduceLT, Nat.reduceLeDiff, Int.reduceToNat, Int.reduceEq, Int.reduceLT, Int.reduceLE, Int.reduceNe, e104, h3, h9, h6, h96, h36]
          first | exact ⟨rfl, .inl trivial⟩ | exact ⟨rfl, .inl rfl⟩ | exact ⟨trivial, .inl trivial⟩ | exact .inl trivial | exact .inl rfl | exact ⟨rfl, .inr rfl⟩ | trivial | simp
      · cases ho
        have e105 : tmAt pay20_ops pay20_ops.size (pay20_vs l b9 x y r) tm (fun q => decide (q < 4)) 105 = .pt b9 0 2 := by kernel_rfl
        generalize hT : tmAt pay20_ops pay20_ops.size (pay20_vs l b9 x y r) tm (fun q => decide (q < 4)) = T at *
        have hcs : c = 0 ∨ c = 1 := by omega
        clear hcc hc
        rcases hcs with rfl | rfl
        · refine .inl ?_
          show aval Tryz.prog C ((nx) + 4) (.load 40 (.tmp 105)) _ (AS.ev ⟨T, fun _ => none, 0⟩) (hp) _
          simp (disch := omega) only [sx, Value.oneCell', ↓reduceIte, Nat.reduceAdd, Nat.reduceMul, Nat.reduceEqDiff, Nat.reduceLT, Nat.reduceLeDiff, Int.reduceToNat, Int.reduceEq, Int.reduceLT, Int.reduceLE, Int.reduceNe, e105, h3, h9, h6, h96, h36]
          first | exact ⟨rfl, .inl trivial⟩ | exact ⟨rfl, .inl rfl⟩ | exact ⟨trivial, .inl trivial⟩ | exact .inl trivial | exact .inl rfl | exact ⟨rfl, .inr rfl⟩ | trivial | simp
        · refine .inl ?_
          show aval Tryz.prog C ((nx) + 4) (.load 40 (.tmp 105)) _ (AS.ev ⟨T, fun _ => none, 0⟩) (upd hp b6 (some ⟨32, [[.ex (.int .i64 l.id), .ex (.int .i64 l.acc), .ex (.int .i64 l.st), .ex (.int .i64 l.pp), .ex (.int .i64 l.pit), .ex (.int .i64 l.fee), .ex (.int .i64 l.pen), .ex (.int .i64 l.chg), .ex (.int .i64 l.prov), .ex (.int .i64 l.loss), .ex (.int .i64 l.recd), .ex (.int .i64 l.t.method), .ex (.int .i64 l.t.prin), .ex (.int .i64 l.t.ppm), .ex (.int .i64 l.t.start), .ex (.int .i64 l.t.every), .ex (.int .i64 l.t.count), .ex (.int .i64 l.t.bal), .ex (.int .i64 l.t.mode), .ex (.int .i64 l.t.pen), .ex (.int .i64 l.t.fee), .ex (.string l.t.cal), .ex (.string l.t.cur), .own x, .own y]], true⟩)) _
          simp (disch := omega) only [sx, Value.oneCell', ↓reduceIte, Nat.reduceAdd, Nat.reduceMul, Nat.reduceEqDiff, Nat.reduceLT, Nat.reduceLeDiff, Int.reduceToNat, Int.reduceEq, Int.reduceLT, Int.reduceLE, Int.reduceNe, e105, h3, h9, h6, h96, h36]
          first | exact ⟨rfl, .inl trivial⟩ | exact ⟨rfl, .inl rfl⟩ | exact ⟨trivial, .inl trivial⟩ | exact .inl trivial | exact .inl rfl | exact ⟨rfl, .inr rfl⟩ | trivial | simp
      · cases ho
        have l1 := (hcc 0 5 rfl).1 (hms 6 5 (by decide +kernel))
        have e106 : tmAt pay20_ops pay20_ops.size (pay20_vs l b9 x y r) tm (fun q => decide (q < 6)) 106 = .own r := by kernel_rfl
        generalize hT : tmAt pay20_ops pay20_ops.size (pay20_vs l b9 x y r) tm (fun q => decide (q < 6)) = T at *
        have hcs : c = 1 := by omega
        clear hcc hc l1
        rcases hcs with rfl
        · refine .inl ?_
          show aval Tryz.prog C ((nx) + 6) (.assign (.tmp 106)) _ (AS.ev ⟨T, fun _ => none, 0⟩) (upd hp b6 (some ⟨32, [[.ex (.int .i64 l.id), .ex (.int .i64 l.acc), .ex (.int .i64 l.st), .ex (.int .i64 l.pp), .ex (.int .i64 l.pit), .ex (.int .i64 l.fee), .ex (.int .i64 l.pen), .ex (.int .i64 l.chg), .ex (.int .i64 l.prov), .ex (.int .i64 l.loss), .ex (.int .i64 l.recd), .ex (.int .i64 l.t.method), .ex (.int .i64 l.t.prin), .ex (.int .i64 l.t.ppm), .ex (.int .i64 l.t.start), .ex (.int .i64 l.t.every), .ex (.int .i64 l.t.count), .ex (.int .i64 l.t.bal), .ex (.int .i64 l.t.mode), .ex (.int .i64 l.t.pen), .ex (.int .i64 l.t.fee), .ex (.string l.t.cal), .ex (.string l.t.cur), .own x, .own y]], true⟩)) _
          simp (disch := omega) only [sx, Value.oneCell', ↓reduceIte, Nat.reduceAdd, Nat.reduceMul, Nat.reduceEqDiff, Nat.reduceLT, Nat.reduceLeDiff, Int.reduceToNat, Int.reduceEq, Int.reduceLT, Int.reduceLE, Int.reduceNe, e106, h3, h9, h6, h96, h36]
          first | exact ⟨rfl, .inl trivial⟩ | exact ⟨rfl, .inl rfl⟩ | exact ⟨trivial, .inl trivial⟩ | exact .inl trivial | exact .inl rfl | exact ⟨rfl, .inr rfl⟩ | trivial | simp
      · cases ho
        have l1 := (hcc 0 5 rfl).1 (hms 7 5 (by decide +kernel))
        generalize hT : tmAt pay20_ops pay20_ops.size (pay20_vs l b9 x y r) tm (fun q => decide (q < 7)) = T at *
        have hcs : c = 1 := by omega
        clear hcc hc l1
        rcases hcs with rfl
        · refine .inl ?_
          show aval Tryz.prog C ((nx) + 7) (.assign (.const (.int .i64 0))) _ (AS.ev ⟨T, fun _ => none, 0⟩) (upd hp b6 (some ⟨32, [[.ex (.int .i64 l.id), .ex (.int .i64 l.acc), .ex (.int .i64 l.st), .ex (.int .i64 l.pp), .ex (.int .i64 l.pit), .ex (.int .i64 l.fee), .ex (.int .i64 l.pen), .ex (.int .i64 l.chg), .ex (.int .i64 l.prov), .ex (.int .i64 l.loss), .ex (.int .i64 l.recd), .ex (.int .i64 l.t.method), .ex (.int .i64 l.t.prin), .ex (.int .i64 l.t.ppm), .ex (.int .i64 l.t.start), .ex (.int .i64 l.t.every), .ex (.int .i64 l.t.count), .ex (.int .i64 l.t.bal), .ex (.int .i64 l.t.mode), .ex (.int .i64 l.t.pen), .ex (.int .i64 l.t.fee), .ex (.string l.t.cal), .ex (.string l.t.cur), .own x, .own y]], true⟩)) _
          simp (disch := omega) only [sx, Value.oneCell', ↓reduceIte, Nat.reduceAdd, Nat.reduceMul, Nat.reduceEqDiff, Nat.reduceLT, Nat.reduceLeDiff, Int.reduceToNat, Int.reduceEq, Int.reduceLT, Int.reduceLE, Int.reduceNe, h3, h9, h6, h96, h36]
          first | exact ⟨rfl, .inl trivial⟩ | exact ⟨rfl, .inl rfl⟩ | exact ⟨trivial, .inl trivial⟩ | exact .inl trivial | exact .inl rfl | exact ⟨rfl, .inr rfl⟩ | trivial | simp
  · refine hq _ ?_ ?_ ?_
    · rw [← t6]; kernel_rfl
    · kernel_rfl
    · kernel_rfl
end Go.Proofs.YtcoflmckbcnlpaaGreatDoor
namespace Go.Proofs.YtcoflmckbcnlpaaGreatDoor
open Go.RowKit
set_option maxRecDepth 100000
set_option linter.unusedSimpArgs false
set_option maxHeartbeats 4000000 in
theorem Pay_two (l : LoanV) (h : LoanOk l) {n on q p : Int} (hq : 0 < q) (hp : 0 < p) (hn : n - q = p) (n2 : n ≤ 1000000000000) (o0 : 0 ≤ on) (o1 : on ≤ 73048)
    (aO : Con Tryz.prog CtxP 24 [.agg [.ex (.int .i64 l.id), .ex (.int .i64 l.acc), .ex (.int .i64 l.st), .ex (.int .i64 l.pp), .ex (.int .i64 l.pit), .ex (.int .i64 l.fee), .ex (.int .i64 l.pen), .ex (.int .i64 l.chg), .ex (.int .i64 l.prov), .ex (.int .i64 l.loss), .ex (.int .i64 l.recd), .ex (.int .i64 l.t.method), .ex (.int .i64 l.t.prin), .ex (.int .i64 l.t.ppm), .ex (.int .i64 l.t.start), .ex (.int .i64 l.t.every), .ex (.int .i64 l.t.count), .ex (.int .i64 l.t.bal), .ex (.int .i64 l.t.mode), .ex (.int .i64 l.t.pen), .ex (.int .i64 l.t.fee), .ex (.string l.t.cal), .ex (.string l.t.cur), .sl (duesC l.dues), .sl []], .ex (.int .i64 on)] (.val (.sl (partsC [(3, q), (4, p)])))) (b1 : l.pp ≤ 1000000000000000) (b2 : l.pit ≤ 1000000000000000)
    {B : Bool} {s : Int} (aL : Con Tryz.prog CtxP 27 [.agg [.ex (.int .i64 (({ l with pp := l.pp + p, pit := l.pit + q })).id), .ex (.int .i64 (({ l with pp := l.pp + p, pit := l.pit + q })).acc), .ex (.int .i64 (({ l with pp := l.pp + p, pit := l.pit + q })).st), .ex (.int .i64 (({ l with pp := l.pp + p, pit := l.pit + q })).pp), .ex (.int .i64 (({ l with pp := l.pp + p, pit := l.pit + q })).pit), .ex (.int .i64 (({ l with pp := l.pp + p, pit := l.pit + q })).fee), .ex (.int .i64 (({ l with pp := l.pp + p, pit := l.pit + q })).pen), .ex (.int .i64 (({ l with pp := l.pp + p, pit := l.pit + q })).chg), .ex (.int .i64 (({ l with pp := l.pp + p, pit := l.pit + q })).prov), .ex (.int .i64 (({ l with pp := l.pp + p, pit := l.pit + q })).loss), .ex (.int .i64 (({ l with pp := l.pp + p, pit := l.pit + q })).recd), .ex (.int .i64 (({ l with pp := l.pp + p, pit := l.pit + q })).t.method), .ex (.int .i64 (({ l with pp := l.pp + p, pit := l.pit + q })).t.prin), .ex (.int .i64 (({ l with pp := l.pp + p, pit := l.pit + q })).t.ppm), .ex (.int .i64 (({ l with pp := l.pp + p, pit := l.pit + q })).t.start), .ex (.int .i64 (({ l with pp := l.pp + p, pit := l.pit + q })).t.every), .ex (.int .i64 (({ l with pp := l.pp + p, pit := l.pit + q })).t.count), .ex (.int .i64 (({ l with pp := l.pp + p, pit := l.pit + q })).t.bal), .ex (.int .i64 (({ l with pp := l.pp + p, pit := l.pit + q })).t.mode), .ex (.int .i64 (({ l with pp := l.pp + p, pit := l.pit + q })).t.pen), .ex (.int .i64 (({ l with pp := l.pp + p, pit := l.pit + q })).t.fee), .ex (.string (({ l with pp := l.pp + p, pit := l.pit + q })).t.cal), .ex (.string (({ l with pp := l.pp + p, pit := l.pit + q })).t.cur), .sl (duesC (({ l with pp := l.pp + p, pit := l.pit + q })).dues), .sl []]] (.val (.ex (.bool B)))) (hs : (B = true ∧ s = 1) ∨ (B = false ∧ s = 2)) :
    Con Tryz.prog CtxP 8 [.agg [.ex (.int .i64 l.id), .ex (.int .i64 l.acc), .ex (.int .i64 l.st), .ex (.int .i64 l.pp), .ex (.int .i64 l.pit), .ex (.int .i64 l.fee), .ex (.int .i64 l.pen), .ex (.int .i64 l.chg), .ex (.int .i64 l.prov), .ex (.int .i64 l.loss), .ex (.int .i64 l.recd), .ex (.int .i64 l.t.method), .ex (.int .i64 l.t.prin), .ex (.int .i64 l.t.ppm), .ex (.int .i64 l.t.start), .ex (.int .i64 l.t.every), .ex (.int .i64 l.t.count), .ex (.int .i64 l.t.bal), .ex (.int .i64 l.t.mode), .ex (.int .i64 l.t.pen), .ex (.int .i64 l.t.fee), .ex (.string l.t.cal), .ex (.string l.t.cur), .sl (duesC l.dues), .sl []], .ex (.int .i64 n), .ex (.int .i64 on)] (.val (.tup [.agg [.ex (.int .i64 (({ l with st := s, pp := l.pp + p, pit := l.pit + q })).id), .ex (.int .i64 (({ l with st := s, pp := l.pp + p, pit := l.pit + q })).acc), .ex (.int .i64 (({ l with st := s, pp := l.pp + p, pit := l.pit + q })).st), .ex (.int .i64 (({ l with st := s, pp := l.pp + p, pit := l.pit + q })).pp), .ex (.int .i64 (({ l with st := s, pp := l.pp + p, pit := l.pit + q })).pit), .ex (.int .i64 (({ l with st := s, pp := l.pp + p, pit := l.pit + q })).fee), .ex (.int .i64 (({ l with st := s, pp := l.pp + p, pit := l.pit + q })).pen), .ex (.int .i64 (({ l with st := s, pp := l.pp + p, pit := l.pit + q })).chg), .ex (.int .i64 (({ l with st := s, pp := l.pp + p, pit := l.pit + q })).prov), .ex (.int .i64 (({ l with st := s, pp := l.pp + p, pit := l.pit + q })).loss), .ex (.int .i64 (({ l with st := s, pp := l.pp + p, pit := l.pit + q })).recd), .ex (.int .i64 (({ l with st := s, pp := l.pp + p, pit := l.pit + q })).t.method), .ex (.int .i64 (({ l with st := s, pp := l.pp + p, pit := l.pit + q })).t.prin), .ex (.int .i64 (({ l with st := s, pp := l.pp + p, pit := l.pit + q })).t.ppm), .ex (.int .i64 (({ l with st := s, pp := l.pp + p, pit := l.pit + q })).t.start), .ex (.int .i64 (({ l with st := s, pp := l.pp + p, pit := l.pit + q })).t.every), .ex (.int .i64 (({ l with st := s, pp := l.pp + p, pit := l.pit + q })).t.count), .ex (.int .i64 (({ l with st := s, pp := l.pp + p, pit := l.pit + q })).t.bal), .ex (.int .i64 (({ l with st := s, pp := l.pp + p, pit := l.pit + q })).t.mode), .ex (.int .i64 (({ l with st := s, pp := l.pp + p, pit := l.pit + q })).t.pen), .ex (.int .i64 (({ l with st := s, pp := l.pp + p, pit := l.pit + q })).t.fee), .ex (.string (({ l with st := s, pp := l.pp + p, pit := l.pit + q })).t.cal), .ex (.string (({ l with st := s, pp := l.pp + p, pit := l.pit + q })).t.cur), .sl (duesC (({ l with st := s, pp := l.pp + p, pit := l.pit + q })).dues), .sl []], .sl (partsC [(3, q), (4, p)]), .ex (.int .i64 0)])) := by
  have a1 := LCheck_con l h
  have a2 := lday_con on
  rw [outB_no o0 o1] at a2
  have aF := fun x y => first_con x y (3, q) [(4, p)] (by simp)
  have a5 := CloneD_con l.dues (by have := h.d.len; omega)
  have a6 := CloneC_con
  have f3 := h.st
  have c1 := h.pp0
  have c2 := h.pi0
  have f1 := dues_p0 l.dues
  have f2 := dues_z0 l.dues
  have hn1 : ¬ n < 1 := by omega
  have hn2 : ¬ 1000000000000 < n := by omega
  have hn3 : n ≤ 1000000000000000 := by omega
  have hq1 : q ≤ n := by omega
  clear h
  (refine con_val base Tryz.func8 rfl rfl (by kernel_rfl) (Nat.le_of_ble_eq_true rfl) ?_; rw [init_eq])
  (repeat' (first | exact trivial | refine stq ?_ | (refine awp_ret ?_; simp only [then_ret, block_ret, end_ret]) | ((first | refine cv (a1) ?_ | refine cv (a2) ?_ | refine cv (aO) ?_ | refine cv (aF _ _) ?_ | refine stn ?_ | refine nqif_ways (fun h => ?_) ?_ | ((first | refine gif_ways (fun h => ?_) (fun h => ?_) | refine cif_ways (fun h => ?_) (fun h => ?_)) <;> (try simp only [sxn] at h) <;> (try (exfalso; omega)))) <;> (try (refine wS ?_)))))
  refine (?_ : awp Tryz.prog CtxP (.region 13 pay13_ops true) _ _)
  refine reg13_new (b3 := 0) (b9 := 28) (l := l) (left := n) (n := q) (k := 0) (owed := [(3, q), (4, p)]) (by exact byQ) (by exact byQ) (by exact byQ) (by exact byQ) (by omega) (by omega) (by decide) rfl rfl (by simp) hq hq1 hn3 c2 b2 ?_
  intro tm H N r e3 e9 e6 k1 k2 k3 k4 k5 k6
  rw [hn] at k4
  dsimp only at k3 aL ⊢
  have z1 : H 1 = some ⟨32, [[.ex (.int .i64 0), .ex (.int .i64 0), .ex (.int .i64 0), .ex (.int .i64 0), .ex (.int .i64 0), .ex (.int .i64 0), .ex (.int .i64 0), .ex (.int .i64 0), .ex (.int .i64 0), .ex (.int .i64 0), .ex (.int .i64 0), .ex (.int .i64 0), .ex (.int .i64 0), .ex (.int .i64 0), .ex (.int .i64 0), .ex (.int .i64 0), .ex (.int .i64 0), .ex (.int .i64 0), .ex (.int .i64 0), .ex (.int .i64 0), .ex (.int .i64 0), .ex (.string ⟨#[]⟩), .ex (.string ⟨#[]⟩), .ex (.slice none 0 0), .ex (.slice none 0 0)]], true⟩ := (k6 1 (by omega) (by decide) (by decide)).trans (by exact byQ)
  clear k6
  show awp Tryz.prog CtxP _ _ _
  (repeat' (first | exact trivial | refine stq ?_ | (refine awp_ret ?_; simp only [then_ret, block_ret, end_ret]) | ((first | refine stn ?_ | refine nqif_ways (fun h => ?_) ?_ | ((first | refine gif_ways (fun h => ?_) (fun h => ?_) | refine cif_ways (fun h => ?_) (fun h => ?_)) <;> (try simp only [sxn] at h) <;> (try (exfalso; omega)))) <;> (try (refine wS ?_)))))
  refine (?_ : awp Tryz.prog CtxP (.region 14 pay14_ops true) _ _)
  refine reg14_next (b3 := 0) (b9 := 28) (l := { l with pit := l.pit + q }) (left := p) (n := p) (k := 1) (owed := [(3, q), (4, p)]) (ps := [(3, q)]) (r := r) (by exact byQ) (by exact byQ) k3 k5 (by omega) (by omega) (by omega) (by simp) k4 (by omega) (by omega) (by decide) rfl rfl (by simp) hp (by omega) (by omega) c1 b1 ?_
  intro tm2 H2 N2 r2 d3 d9 d6 j1 j2 j3 j4 j5 j6
  rw [Int.sub_self] at j4
  replace j5 : H2 r2 = some ⟨64, [[.ex (.int .i64 3), .ex (.int .i64 q)], [.ex (.int .i64 4), .ex (.int .i64 p)]], true⟩ := j5
  rw [e6] at d6
  replace z1 := (j6 1 (by omega) (by decide) (by decide) (by omega)).trans z1
  clear j6 k3 k4 k5 e3 e9 e6
  dsimp only at j3
  have hr1 : ¬ r2 = 1 := by omega
  have hr0 : ¬ r2 = 0 := by omega
  have hr28 : ¬ r2 = 28 := by omega
  show awp Tryz.prog CtxP _ _ _
  rcases hs with ⟨rfl, rfl⟩ | ⟨rfl, rfl⟩
  · (repeat' (first | exact trivial | refine stq ?_ | (refine awp_ret ?_; simp only [then_ret, block_ret, end_ret]) | ((first | refine cv (aL) ?_ | refine stn ?_ | refine nqif_ways (fun h => ?_) ?_ | ((first | refine gif_ways (fun h => ?_) (fun h => ?_) | refine cif_ways (fun h => ?_) (fun h => ?_)) <;> (try simp only [sxn] at h) <;> (try (exfalso; omega)))) <;> (try (refine wS ?_)))))
    refine vdraws (by kernel_rfl) ?_
    (refine wS ?_)
    (repeat' (first | exact trivial | refine stq ?_ | (refine awp_ret ?_; simp only [then_ret, block_ret, end_ret]) | ((first | refine cf (a5) ?_ | refine cf (a6) ?_ | refine stn ?_ | refine nqif_ways (fun h => ?_) ?_ | ((first | refine gif_ways (fun h => ?_) (fun h => ?_) | refine cif_ways (fun h => ?_) (fun h => ?_)) <;> (try simp only [sxn] at h) <;> (try (exfalso; omega)))) <;> (try (refine wS ?_)))))
    refine (?_ : awp Tryz.prog CtxP (.region 20 pay20_ops true) _ _)
    refine pay20 base (b3 := 0) (b9 := 28) (b6 := 1) (l := { l with st := 1, pp := l.pp + p, pit := l.pit + q }) (by exact byQ) (by exact byQ) (by exact byQ) (by exact byQ) (by exact byQ) (by exact byQ) (by decide) (by decide) ?_
    intro tm3 i6 i7 i8
    show awp Tryz.prog CtxP _ _ _
    (repeat' (first | exact trivial | refine stq ?_ | (refine awp_ret ?_; simp only [then_ret, block_ret, end_ret]) | ((first | refine stp ?_ | refine nqif_ways (fun h => ?_) ?_ | ((first | refine gif_ways (fun h => ?_) (fun h => ?_) | refine cif_ways (fun h => ?_) (fun h => ?_)) <;> (try simp only [sxn] at h) <;> (try (exfalso; omega)))) <;> (try (refine wS ?_)))))
    all_goals (refine rc4 rfl ?_)
    all_goals rfl
  · (repeat' (first | exact trivial | refine stq ?_ | (refine awp_ret ?_; simp only [then_ret, block_ret, end_ret]) | ((first | refine cv (aL) ?_ | refine stn ?_ | refine nqif_ways (fun h => ?_) ?_ | ((first | refine gif_ways (fun h => ?_) (fun h => ?_) | refine cif_ways (fun h => ?_) (fun h => ?_)) <;> (try simp only [sxn] at h) <;> (try (exfalso; omega)))) <;> (try (refine wS ?_)))))
    refine vdraws (by kernel_rfl) ?_
    (refine wS ?_)
    (repeat' (first | exact trivial | refine stq ?_ | (refine awp_ret ?_; simp only [then_ret, block_ret, end_ret]) | ((first | refine cf (a5) ?_ | refine cf (a6) ?_ | refine stn ?_ | refine nqif_ways (fun h => ?_) ?_ | ((first | refine gif_ways (fun h => ?_) (fun h => ?_) | refine cif_ways (fun h => ?_) (fun h => ?_)) <;> (try simp only [sxn] at h) <;> (try (exfalso; omega)))) <;> (try (refine wS ?_)))))
    refine (?_ : awp Tryz.prog CtxP (.region 20 pay20_ops true) _ _)
    refine pay20 base (b3 := 0) (b9 := 28) (b6 := 1) (l := { l with st := 2, pp := l.pp + p, pit := l.pit + q }) (by exact byQ) (by exact byQ) (by exact byQ) (by exact byQ) (by exact byQ) (by exact byQ) (by decide) (by decide) ?_
    intro tm3 i6 i7 i8
    show awp Tryz.prog CtxP _ _ _
    (repeat' (first | exact trivial | refine stq ?_ | (refine awp_ret ?_; simp only [then_ret, block_ret, end_ret]) | ((first | refine stp ?_ | refine nqif_ways (fun h => ?_) ?_ | ((first | refine gif_ways (fun h => ?_) (fun h => ?_) | refine cif_ways (fun h => ?_) (fun h => ?_)) <;> (try simp only [sxn] at h) <;> (try (exfalso; omega)))) <;> (try (refine wS ?_)))))
    all_goals (refine rc4 rfl ?_)
    all_goals rfl
end Go.Proofs.YtcoflmckbcnlpaaGreatDoor