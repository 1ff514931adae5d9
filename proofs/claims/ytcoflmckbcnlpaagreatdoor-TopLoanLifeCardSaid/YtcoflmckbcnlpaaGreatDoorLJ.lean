/-
  A loan whose installments are paid: the law's call of Pay, walked. Conditions: those that the theorem states. More of the kind.
-/
import Derived.Test.YtcoflmckbcnlpaaGreatDoorLI
namespace Go.Proofs.YtcoflmckbcnlpaaGreatDoor
open Go.RowKit
set_option maxRecDepth 100000
set_option linter.unusedSimpArgs false
noncomputable def top17_ops : Array Oper := ((Tryz.f3.body.bind (regOf 17)).getD #[])
noncomputable def top17_vs (l l2 : LoanV) (R : List DueV) (x : DueV) (nx k : Nat) (n g : Int) (ps : AV) : Nat → AV := fun i =>
  [.agg [.ex (.int .i64 l.id), .ex (.int .i64 l.acc), .ex (.int .i64 l.st), .ex (.int .i64 l.pp), .ex (.int .i64 l.pit), .ex (.int .i64 l.fee), .ex (.int .i64 l.pen), .ex (.int .i64 l.chg), .ex (.int .i64 l.prov), .ex (.int .i64 l.loss), .ex (.int .i64 l.recd), .ex (.int .i64 l.t.method), .ex (.int .i64 l.t.prin), .ex (.int .i64 l.t.ppm), .ex (.int .i64 l.t.start), .ex (.int .i64 l.t.every), .ex (.int .i64 l.t.count), .ex (.int .i64 l.t.bal), .ex (.int .i64 l.t.mode), .ex (.int .i64 l.t.pen), .ex (.int .i64 l.t.fee), .ex (.string l.t.cal), .ex (.string l.t.cur), .sl (duesC l.dues), .sl []], .ex (.int .i64 n), .sl (duesC R), .ex (.int .i64 k), .rp [.ex (.int .i64 x.no), .ex (.int .i64 x.day), .ex (.int .i64 x.pr), .ex (.int .i64 x.it)] 0, .rp [.ex (.int .i64 x.no), .ex (.int .i64 x.day), .ex (.int .i64 x.pr), .ex (.int .i64 x.it)] 1, .ex (.int .i64 x.day), .tup [.agg [.ex (.int .i64 l2.id), .ex (.int .i64 l2.acc), .ex (.int .i64 l2.st), .ex (.int .i64 l2.pp), .ex (.int .i64 l2.pit), .ex (.int .i64 l2.fee), .ex (.int .i64 l2.pen), .ex (.int .i64 l2.chg), .ex (.int .i64 l2.prov), .ex (.int .i64 l2.loss), .ex (.int .i64 l2.recd), .ex (.int .i64 l2.t.method), .ex (.int .i64 l2.t.prin), .ex (.int .i64 l2.t.ppm), .ex (.int .i64 l2.t.start), .ex (.int .i64 l2.t.every), .ex (.int .i64 l2.t.count), .ex (.int .i64 l2.t.bal), .ex (.int .i64 l2.t.mode), .ex (.int .i64 l2.t.pen), .ex (.int .i64 l2.t.fee), .ex (.string l2.t.cal), .ex (.string l2.t.cur), .sl (duesC l2.dues), .sl []], ps, .ex (.int .i64 g)], .tup [.agg [.ex (.int .i64 l2.id), .ex (.int .i64 l2.acc), .ex (.int .i64 l2.st), .ex (.int .i64 l2.pp), .ex (.int .i64 l2.pit), .ex (.int .i64 l2.fee), .ex (.int .i64 l2.pen), .ex (.int .i64 l2.chg), .ex (.int .i64 l2.prov), .ex (.int .i64 l2.loss), .ex (.int .i64 l2.recd), .ex (.int .i64 l2.t.method), .ex (.int .i64 l2.t.prin), .ex (.int .i64 l2.t.ppm), .ex (.int .i64 l2.t.start), .ex (.int .i64 l2.t.every), .ex (.int .i64 l2.t.count), .ex (.int .i64 l2.t.bal), .ex (.int .i64 l2.t.mode), .ex (.int .i64 l2.t.pen), .ex (.int .i64 l2.t.fee), .ex (.string l2.t.cal), .ex (.string l2.t.cur), .sl (duesC l2.dues), .sl []], ps, .ex (.int .i64 g)], .agg [.ex (.int .i64 l2.id), .ex (.int .i64 l2.acc), .ex (.int .i64 l2.st), .ex (.int .i64 l2.pp), .ex (.int .i64 l2.pit), .ex (.int .i64 l2.fee), .ex (.int .i64 l2.pen), .ex (.int .i64 l2.chg), .ex (.int .i64 l2.prov), .ex (.int .i64 l2.loss), .ex (.int .i64 l2.recd), .ex (.int .i64 l2.t.method), .ex (.int .i64 l2.t.prin), .ex (.int .i64 l2.t.ppm), .ex (.int .i64 l2.t.start), .ex (.int .i64 l2.t.every), .ex (.int .i64 l2.t.count), .ex (.int .i64 l2.t.bal), .ex (.int .i64 l2.t.mode), .ex (.int .i64 l2.t.pen), .ex (.int .i64 l2.t.fee), .ex (.string l2.t.cal), .ex (.string l2.t.cur), .sl (duesC l2.dues), .sl []], ps, .ex (.int .i64 g), .pt (nx + 12) 0 0, .junk, ps, .ex (.int .i64 g)].getD i .und
set_option maxHeartbeats 4000000 in
theorem top17 {C : World → Prop} (Bs : Base Tryz.prog C) {tm : Nat → AV} {hp : Nat → Option Row1} {nx b k : Nat} {l l2 : LoanV} {R : List DueV} {x : DueV} {n g : Int} {ps : AV} {Q : Exit → AS → Prop} (t5 : tm 5 = .pt b 0 0) (t12 : tm 12 = .ex (.int .i64 n)) (t7 : tm 7 = .sl (duesC R)) (t11 : tm 11 = .ex (.int .i64 k)) (h5 : hp b = some ⟨32, [[.ex (.int .i64 l.id), .ex (.int .i64 l.acc), .ex (.int .i64 l.st), .ex (.int .i64 l.pp), .ex (.int .i64 l.pit), .ex (.int .i64 l.fee), .ex (.int .i64 l.pen), .ex (.int .i64 l.chg), .ex (.int .i64 l.prov), .ex (.int .i64 l.loss), .ex (.int .i64 l.recd), .ex (.int .i64 l.t.method), .ex (.int .i64 l.t.prin), .ex (.int .i64 l.t.ppm), .ex (.int .i64 l.t.start), .ex (.int .i64 l.t.every), .ex (.int .i64 l.t.count), .ex (.int .i64 l.t.bal), .ex (.int .i64 l.t.mode), .ex (.int .i64 l.t.pen), .ex (.int .i64 l.t.fee), .ex (.string l.t.cal), .ex (.string l.t.cur), .sl (duesC l.dues), .sl []]], true⟩) (hb : b < nx)
    (q4 : (duesC R)[k]? = some [.ex (.int .i64 x.no), .ex (.int .i64 x.day), .ex (.int .i64 x.pr), .ex (.int .i64 x.it)]) (q1 : (duesC R).length = R.length) (hk : k < R.length) (aP : Con Tryz.prog C 8 [.agg [.ex (.int .i64 l.id), .ex (.int .i64 l.acc), .ex (.int .i64 l.st), .ex (.int .i64 l.pp), .ex (.int .i64 l.pit), .ex (.int .i64 l.fee), .ex (.int .i64 l.pen), .ex (.int .i64 l.chg), .ex (.int .i64 l.prov), .ex (.int .i64 l.loss), .ex (.int .i64 l.recd), .ex (.int .i64 l.t.method), .ex (.int .i64 l.t.prin), .ex (.int .i64 l.t.ppm), .ex (.int .i64 l.t.start), .ex (.int .i64 l.t.every), .ex (.int .i64 l.t.count), .ex (.int .i64 l.t.bal), .ex (.int .i64 l.t.mode), .ex (.int .i64 l.t.pen), .ex (.int .i64 l.t.fee), .ex (.string l.t.cal), .ex (.string l.t.cur), .sl (duesC l.dues), .sl []], .ex (.int .i64 n), .ex (.int .i64 x.day)] (.val (.tup [.agg [.ex (.int .i64 l2.id), .ex (.int .i64 l2.acc), .ex (.int .i64 l2.st), .ex (.int .i64 l2.pp), .ex (.int .i64 l2.pit), .ex (.int .i64 l2.fee), .ex (.int .i64 l2.pen), .ex (.int .i64 l2.chg), .ex (.int .i64 l2.prov), .ex (.int .i64 l2.loss), .ex (.int .i64 l2.recd), .ex (.int .i64 l2.t.method), .ex (.int .i64 l2.t.prin), .ex (.int .i64 l2.t.ppm), .ex (.int .i64 l2.t.start), .ex (.int .i64 l2.t.every), .ex (.int .i64 l2.t.count), .ex (.int .i64 l2.t.bal), .ex (.int .i64 l2.t.mode), .ex (.int .i64 l2.t.pen), .ex (.int .i64 l2.t.fee), .ex (.string l2.t.cal), .ex (.string l2.t.cur), .sl (duesC l2.dues), .sl []], ps, .ex (.int .i64 g)])))
    (hq : ∀ tm' : Nat → AV, tm' 2 = tm 2 → tm' 5 = .pt b 0 0 → tm' 7 = .sl (duesC R) → tm' 9 = tm 9 → tm' 10 = tm 10 → tm' 11 = .ex (.int .i64 k) → tm' 12 = .ex (.int .i64 n) → tm' 13 = .pt (nx + 12) 0 0 → tm' 14 = ps → tm' 15 = .ex (.int .i64 g) → Q .normal ⟨tm', upd (upd hp (nx + 12) (some ⟨32, [[.ex (.int .i64 0), .ex (.int .i64 0), .ex (.int .i64 0), .ex (.int .i64 0), .ex (.int .i64 0), .ex (.int .i64 0), .ex (.int .i64 0), .ex (.int .i64 0), .ex (.int .i64 0), .ex (.int .i64 0), .ex (.int .i64 0), .ex (.int .i64 0), .ex (.int .i64 0), .ex (.int .i64 0), .ex (.int .i64 0), .ex (.int .i64 0), .ex (.int .i64 0), .ex (.int .i64 0), .ex (.int .i64 0), .ex (.int .i64 0), .ex (.int .i64 0), .ex (.string ⟨#[]⟩), .ex (.string ⟨#[]⟩), .ex (.slice none 0 0), .ex (.slice none 0 0)]], true⟩)) (nx + 12) (some ⟨32, [[.ex (.int .i64 l2.id), .ex (.int .i64 l2.acc), .ex (.int .i64 l2.st), .ex (.int .i64 l2.pp), .ex (.int .i64 l2.pit), .ex (.int .i64 l2.fee), .ex (.int .i64 l2.pen), .ex (.int .i64 l2.chg), .ex (.int .i64 l2.prov), .ex (.int .i64 l2.loss), .ex (.int .i64 l2.recd), .ex (.int .i64 l2.t.method), .ex (.int .i64 l2.t.prin), .ex (.int .i64 l2.t.ppm), .ex (.int .i64 l2.t.start), .ex (.int .i64 l2.t.every), .ex (.int .i64 l2.t.count), .ex (.int .i64 l2.t.bal), .ex (.int .i64 l2.t.mode), .ex (.int .i64 l2.t.pen), .ex (.int .i64 l2.t.fee), .ex (.string l2.t.cal), .ex (.string l2.t.cur), .sl (duesC l2.dues), .sl []]], true⟩), nx + 16⟩) :
    awp Tryz.prog C (.region 17 top17_ops true) Q ⟨tm, hp, nx⟩ := by
  have hO : Ord top17_ops top17_ops.size := ord_of (by kernel_rfl)
  refine region_chain Bs (vs := (top17_vs l l2 R x nx k n g ps)) (ch := [12, 13]) (H := fun c => bif Nat.beq c 0 then hp else bif Nat.beq c 1 then upd hp (nx + 12) (some ⟨32, [[.ex (.int .i64 0), .ex (.int .i64 0), .ex (.int .i64 0), .ex (.int .i64 0), .ex (.int .i64 0), .ex (.int .i64 0), .ex (.int .i64 0), .ex (.int .i64 0), .ex (.int .i64 0), .ex (.int .i64 0), .ex (.int .i64 0), .ex (.int .i64 0), .ex (.int .i64 0), .ex (.int .i64 0), .ex (.int .i64 0), .ex (.int .i64 0), .ex (.int .i64 0), .ex (.int .i64 0), .ex (.int .i64 0), .ex (.int .i64 0), .ex (.int .i64 0), .ex (.string ⟨#[]⟩), .ex (.string ⟨#[]⟩), .ex (.slice none 0 0), .ex (.slice none 0 0)]], true⟩) else upd (upd hp (nx + 12) (some ⟨32, [[.ex (.int .i64 0), .ex (.int .i64 0), .ex (.int .i64 0), .ex (.int .i64 0), .ex (.int .i64 0), .ex (.int .i64 0), .ex (.int .i64 0), .ex (.int .i64 0), .ex (.int .i64 0), .ex (.int .i64 0), .ex (.int .i64 0), .ex (.int .i64 0), .ex (.int .i64 0), .ex (.int .i64 0), .ex (.int .i64 0), .ex (.int .i64 0), .ex (.int .i64 0), .ex (.int .i64 0), .ex (.int .i64 0), .ex (.int .i64 0), .ex (.int .i64 0), .ex (.string ⟨#[]⟩), .ex (.string ⟨#[]⟩), .ex (.slice none 0 0), .ex (.slice none 0 0)]], true⟩)) (nx + 12) (some ⟨32, [[.ex (.int .i64 l2.id), .ex (.int .i64 l2.acc), .ex (.int .i64 l2.st), .ex (.int .i64 l2.pp), .ex (.int .i64 l2.pit), .ex (.int .i64 l2.fee), .ex (.int .i64 l2.pen), .ex (.int .i64 l2.chg), .ex (.int .i64 l2.prov), .ex (.int .i64 l2.loss), .ex (.int .i64 l2.recd), .ex (.int .i64 l2.t.method), .ex (.int .i64 l2.t.prin), .ex (.int .i64 l2.t.ppm), .ex (.int .i64 l2.t.start), .ex (.int .i64 l2.t.every), .ex (.int .i64 l2.t.count), .ex (.int .i64 l2.t.bal), .ex (.int .i64 l2.t.mode), .ex (.int .i64 l2.t.pen), .ex (.int .i64 l2.t.fee), .ex (.string l2.t.cal), .ex (.string l2.t.cur), .sl (duesC l2.dues), .sl []]], true⟩)) (B := fun c => nx) hO ?_ ?_
  · refine ⟨rfl, rfl, ?_, ?_, by simp, ?_, ?_, ?_, ?_⟩
    · intro c hc
      have hc : c ≤ 2 := hc
      have : c = 0 ∨ c = 1 ∨ c = 2 := by omega
      rcases this with rfl | rfl | rfl <;> first | exact Nat.le_refl _ | exact Nat.le_refl _
    · intro h hh
      simp only [List.mem_cons, List.not_mem_nil, or_false] at hh
      rcases hh with rfl | rfl <;> exact Nat.le_of_ble_eq_true (by kernel_rfl)
    · have hms := masks_reach (ops := top17_ops) top17_ops.toList [] (fun j => by simp) (fun j i hb => by simp at hb)
      intro m h h' hm hm'
      have hlt : m + 1 < 2 := by have := (List.getElem?_eq_some_iff.1 hm').1; simpa using this
      have : m = 0 := by omega
      rcases this with rfl
      · cases hm; cases hm'; exact hms 13 12 (by decide +kernel)
    · intro o ho
      have : (top17_ops.toList.all fun o => o.guard.isNone) = true := by kernel_rfl
      have := List.all_eq_true.1 this o ho
      simpa using this
    · intro m h o hm ho
      have hlt : m < 2 := by have := (List.getElem?_eq_some_iff.1 hm).1; simpa using this
      have : m = 0 ∨ m = 1 := by omega
      rcases this with rfl | rfl
      · cases (show some 12 = some h from hm)
        cases ho
        generalize hT : tmAt top17_ops top17_ops.size (top17_vs l l2 R x nx k n g ps) tm (fun q => decide (q < 12)) = T at *
        refine .inl ⟨.alc 32 [.ex (.int .i64 0), .ex (.int .i64 0), .ex (.int .i64 0), .ex (.int .i64 0), .ex (.int .i64 0), .ex (.int .i64 0), .ex (.int .i64 0), .ex (.int .i64 0), .ex (.int .i64 0), .ex (.int .i64 0), .ex (.int .i64 0), .ex (.int .i64 0), .ex (.int .i64 0), .ex (.int .i64 0), .ex (.int .i64 0), .ex (.int .i64 0), .ex (.int .i64 0), .ex (.int .i64 0), .ex (.int .i64 0), .ex (.int .i64 0), .ex (.int .i64 0), .ex (.string ⟨#[]⟩), .ex (.string ⟨#[]⟩), .ex (.slice none 0 0), .ex (.slice none 0 0)], ?_, rfl, rfl⟩
        show aval Tryz.prog C ((nx) + 12) (.alloc 32) _ (AS.ev ⟨T, fun _ => none, 0⟩) (hp) _
        simp (disch := omega) only [sx, Value.oneCell', ↓reduceIte, Nat.reduceAdd, Nat.reduceMul, Nat.reduceEqDiff, Nat.reduceLT, Nat.reduceLeDiff, Int.reduceToNat, Int.reduceEq, Int.reduceLT, Int.reduceLE, Int.reduceNe, h5, q4, q1]
        first | exact ⟨rfl, rfl⟩ | trivial | rfl | exact ⟨by omega, rfl⟩ | exact ⟨by omega, rfl, rfl⟩ | (trace_state; simp)
      · cases (show some 13 = some h from hm)
        cases ho
        have e13 : tmAt top17_ops top17_ops.size (top17_vs l l2 R x nx k n g ps) tm (fun q => decide (q < 13)) 13 = .pt (nx + 12) 0 0 := by kernel_rfl
        have e106 : tmAt top17_ops top17_ops.size (top17_vs l l2 R x nx k n g ps) tm (fun q => decide (q < 13)) 106 = .agg [.ex (.int .i64 l2.id), .ex (.int .i64 l2.acc), .ex (.int .i64 l2.st), .ex (.int .i64 l2.pp), .ex (.int .i64 l2.pit), .ex (.int .i64 l2.fee), .ex (.int .i64 l2.pen), .ex (.int .i64 l2.chg), .ex (.int .i64 l2.prov), .ex (.int .i64 l2.loss), .ex (.int .i64 l2.recd), .ex (.int .i64 l2.t.method), .ex (.int .i64 l2.t.prin), .ex (.int .i64 l2.t.ppm), .ex (.int .i64 l2.t.start), .ex (.int .i64 l2.t.every), .ex (.int .i64 l2.t.count), .ex (.int .i64 l2.t.bal), .ex (.int .i64 l2.t.mode), .ex (.int .i64 l2.t.pen), .ex (.int .i64 l2.t.fee), .ex (.string l2.t.cal), .ex (.string l2.t.cur), .sl (duesC l2.dues), .sl []] := by kernel_rfl
        generalize hT : tmAt top17_ops top17_ops.size (top17_vs l l2 R x nx k n g ps) tm (fun q => decide (q < 13)) = T at *
        refine .inl ⟨.set (nx + 12) ⟨32, [[.ex (.int .i64 l2.id), .ex (.int .i64 l2.acc), .ex (.int .i64 l2.st), .ex (.int .i64 l2.pp), .ex (.int .i64 l2.pit), .ex (.int .i64 l2.fee), .ex (.int .i64 l2.pen), .ex (.int .i64 l2.chg), .ex (.int .i64 l2.prov), .ex (.int .i64 l2.loss), .ex (.int .i64 l2.recd), .ex (.int .i64 l2.t.method), .ex (.int .i64 l2.t.prin), .ex (.int .i64 l2.t.ppm), .ex (.int .i64 l2.t.start), .ex (.int .i64 l2.t.every), .ex (.int .i64 l2.t.count), .ex (.int .i64 l2.t.bal), .ex (.int .i64 l2.t.mode), .ex (.int .i64 l2.t.pen), .ex (.int .i64 l2.t.fee), .ex (.string l2.t.cal), .ex (.string l2.t.cur), .sl (duesC l2.dues), .sl []]], true⟩, ?_, rfl, rfl⟩
        show aval Tryz.prog C ((nx) + 13) (.store 32 (.tmp 13) (.tmp 106)) _ (AS.ev ⟨T, fun _ => none, 0⟩) (upd hp (nx + 12) (some ⟨32, [[.ex (.int .i64 0), .ex (.int .i64 0), .ex (.int .i64 0), .ex (.int .i64 0), .ex (.int .i64 0), .ex (.int .i64 0), .ex (.int .i64 0), .ex (.int .i64 0), .ex (.int .i64 0), .ex (.int .i64 0), .ex (.int .i64 0), .ex (.int .i64 0), .ex (.int .i64 0), .ex (.int .i64 0), .ex (.int .i64 0), .ex (.int .i64 0), .ex (.int .i64 0), .ex (.int .i64 0), .ex (.int .i64 0), .ex (.int .i64 0), .ex (.int .i64 0), .ex (.string ⟨#[]⟩), .ex (.string ⟨#[]⟩), .ex (.slice none 0 0), .ex (.slice none 0 0)]], true⟩)) _
        simp (disch := omega) only [sx, Value.oneCell', ↓reduceIte, Nat.reduceAdd, Nat.reduceMul, Nat.reduceEqDiff, Nat.reduceLT, Nat.reduceLeDiff, Int.reduceToNat, Int.reduceEq, Int.reduceLT, Int.reduceLE, Int.reduceNe, e13, e106, h5, q4, q1]
        first | exact ⟨rfl, rfl⟩ | trivial | rfl | exact ⟨by omega, rfl⟩ | exact ⟨by omega, rfl, rfl⟩ | (trace_state; simp)
    · have hms := masks_reach (ops := top17_ops) top17_ops.toList [] (fun j => by simp) (fun j i hb => by simp at hb)
      intro i o ho hni c hc hcc
      have hc : c ≤ 2 := hc
      have hi : i < 16 := (Array.getElem?_eq_some_iff.1 ho).1
      have hi' : i = 0 ∨ i = 1 ∨ i = 2 ∨ i = 3 ∨ i = 4 ∨ i = 5 ∨ i = 6 ∨ i = 7 ∨ i = 8 ∨ i = 9 ∨ i = 10 ∨ i = 11 ∨ i = 14 ∨ i = 15 := by
        have : i ≠ 12 ∧ i ≠ 13 := by simpa using hni
        omega
      clear hi
      rcases hi' with rfl | rfl | rfl | rfl | rfl | rfl | rfl | rfl | rfl | rfl | rfl | rfl | rfl | rfl
      · cases ho
        have lB := (hcc 1 13 rfl).2 (hms 13 0 (by decide +kernel))
        have e5 : tmAt top17_ops top17_ops.size (top17_vs l l2 R x nx k n g ps) tm (fun q => decide (q < 0)) 5 = .pt b 0 0 := by rw [← t5]; kernel_rfl
        generalize hT : tmAt top17_ops top17_ops.size (top17_vs l l2 R x nx k n g ps) tm (fun q => decide (q < 0)) = T at *
        have hcs : c = 0 ∨ c = 1 := by omega
        clear hcc hc lB
        rcases hcs with rfl | rfl
        · refine .inl ?_
          show aval Tryz.prog C ((nx) + 0) (.load 32 (.tmp 5)) _ (AS.ev ⟨T, fun _ => none, 0⟩) (hp) _
          simp (disch := omega) only [sx, Value.oneCell', ↓reduceIte, Nat.reduceAdd, Nat.reduceMul, Nat.reduceEqDiff, Nat.reduceLT, Nat.reduceLeDiff, Int.reduceToNat, Int.reduceEq, Int.reduceLT, Int.reduceLE, Int.reduceNe, e5, h5, q4, q1]
          first | exact ⟨rfl, .inl trivial⟩ | exact ⟨rfl, .inl rfl⟩ | exact ⟨trivial, .inl trivial⟩ | exact .inl trivial | exact .inl rfl | exact ⟨rfl, .inr rfl⟩ | trivial | exact ⟨rfl, by simp⟩ | simp
        · refine .inl ?_
          show aval Tryz.prog C ((nx) + 0) (.load 32 (.tmp 5)) _ (AS.ev ⟨T, fun _ => none, 0⟩) (upd hp (nx + 12) (some ⟨32, [[.ex (.int .i64 0), .ex (.int .i64 0), .ex (.int .i64 0), .ex (.int .i64 0), .ex (.int .i64 0), .ex (.int .i64 0), .ex (.int .i64 0), .ex (.int .i64 0), .ex (.int .i64 0), .ex (.int .i64 0), .ex (.int .i64 0), .ex (.int .i64 0), .ex (.int .i64 0), .ex (.int .i64 0), .ex (.int .i64 0), .ex (.int .i64 0), .ex (.int .i64 0), .ex (.int .i64 0), .ex (.int .i64 0), .ex (.int .i64 0), .ex (.int .i64 0), .ex (.string ⟨#[]⟩), .ex (.string ⟨#[]⟩), .ex (.slice none 0 0), .ex (.slice none 0 0)]], true⟩)) _
          simp (disch := omega) only [sx, Value.oneCell', ↓reduceIte, Nat.reduceAdd, Nat.reduceMul, Nat.reduceEqDiff, Nat.reduceLT, Nat.reduceLeDiff, Int.reduceToNat, Int.reduceEq, Int.reduceLT, Int.reduceLE, Int.reduceNe, e5, h5, q4, q1]
          first | exact ⟨rfl, .inl trivial⟩ | exact ⟨rfl, .inl rfl⟩ | exact ⟨trivial, .inl trivial⟩ | exact .inl trivial | exact .inl rfl | exact ⟨rfl, .inr rfl⟩ | trivial | exact ⟨rfl, by simp⟩ | simp
      · cases ho
        have lB := (hcc 1 13 rfl).2 (hms 13 1 (by decide +kernel))
        have e12 : tmAt top17_ops top17_ops.size (top17_vs l l2 R x nx k n g ps) tm (fun q => decide (q < 1)) 12 = .ex (.int .i64 n) := by rw [← t12]; kernel_rfl
        generalize hT : tmAt top17_ops top17_ops.size (top17_vs l l2 R x nx k n g ps) tm (fun q => decide (q < 1)) = T at *
        have hcs : c = 0 ∨ c = 1 := by omega
        clear hcc hc lB
        rcases hcs with rfl | rfl
        · refine .inl ?_
          show aval Tryz.prog C ((nx) + 1) (.move (.tmp 12)) _ (AS.ev ⟨T, fun _ => none, 0⟩) (hp) _
          simp (disch := omega) only [sx, Value.oneCell', ↓reduceIte, Nat.reduceAdd, Nat.reduceMul, Nat.reduceEqDiff, Nat.reduceLT, Nat.reduceLeDiff, Int.reduceToNat, Int.reduceEq, Int.reduceLT, Int.reduceLE, Int.reduceNe, e12, h5, q4, q1]
          first | exact ⟨rfl, .inl trivial⟩ | exact ⟨rfl, .inl rfl⟩ | exact ⟨trivial, .inl trivial⟩ | exact .inl trivial | exact .inl rfl | exact ⟨rfl, .inr rfl⟩ | trivial | exact ⟨rfl, by simp⟩ | simp
        · refine .inl ?_
          show aval Tryz.prog C ((nx) + 1) (.move (.tmp 12)) _ (AS.ev ⟨T, fun _ => none, 0⟩) (upd hp (nx + 12) (some ⟨32, [[.ex (.int .i64 0), .ex (.int .i64 0), .ex (.int .i64 0), .ex (.int .i64 0), .ex (.int .i64 0), .ex (.int .i64 0), .ex (.int .i64 0), .ex (.int .i64 0), .ex (.int .i64 0), .ex (.int .i64 0), .ex (.int .i64 0), .ex (.int .i64 0), .ex (.int .i64 0), .ex (.int .i64 0), .ex (.int .i64 0), .ex (.int .i64 0), .ex (.int .i64 0), .ex (.int .i64 0), .ex (.int .i64 0), .ex (.int .i64 0), .ex (.int .i64 0), .ex (.string ⟨#[]⟩), .ex (.string ⟨#[]⟩), .ex (.slice none 0 0), .ex (.slice none 0 0)]], true⟩)) _
          simp (disch := omega) only [sx, Value.oneCell', ↓reduceIte, Nat.reduceAdd, Nat.reduceMul, Nat.reduceEqDiff, Nat.reduceLT, Nat.reduceLeDiff, Int.reduceToNat, Int.reduceEq, Int.reduceLT, Int.reduceLE, Int.reduceNe, e12, h5, q4, q1]
          first | exact ⟨rfl, .inl trivial⟩ | exact ⟨rfl, .inl rfl⟩ | exact ⟨trivial, .inl trivial⟩ | exact .inl trivial | exact .inl rfl | exact ⟨rfl, .inr rfl⟩ | trivial | exact ⟨rfl, by simp⟩ | simp
      · cases ho
        have lB := (hcc 1 13 rfl).2 (hms 13 2 (by decide +kernel))
        have e7 : tmAt top17_ops top17_ops.size (top17_vs l l2 R x nx k n g ps) tm (fun q => decide (q < 2)) 7 = .sl (duesC R) := by rw [← t7]; kernel_rfl
        generalize hT : tmAt top17_ops top17_ops.size (top17_vs l l2 R x nx k n g ps) tm (fun q => decide (q < 2)) = T at *
        have hcs : c = 0 ∨ c = 1 := by omega
        clear hcc hc lB
        rcases hcs with rfl | rfl
        · refine .inl ?_
          show aval Tryz.prog C ((nx) + 2) (.move (.tmp 7)) _ (AS.ev ⟨T, fun _ => none, 0⟩) (hp) _
          simp (disch := omega) only [sx, Value.oneCell', ↓reduceIte, Nat.reduceAdd, Nat.reduceMul, Nat.reduceEqDiff, Nat.reduceLT, Nat.reduceLeDiff, Int.reduceToNat, Int.reduceEq, Int.reduceLT, Int.reduceLE, Int.reduceNe, e7, h5, q4, q1]
          first | exact ⟨rfl, .inl trivial⟩ | exact ⟨rfl, .inl rfl⟩ | exact ⟨trivial, .inl trivial⟩ | exact .inl trivial | exact .inl rfl | exact ⟨rfl, .inr rfl⟩ | trivial | exact ⟨rfl, by simp⟩ | simp
        · refine .inl ?_
          show aval Tryz.prog C ((nx) + 2) (.move (.tmp 7)) _ (AS.ev ⟨T, fun _ => none, 0⟩) (upd hp (nx + 12) (some ⟨32, [[.ex (.int .i64 0), .ex (.int .i64 0), .ex (.int .i64 0), .ex (.int .i64 0), .ex (.int .i64 0), .ex (.int .i64 0), .ex (.int .i64 0), .ex (.int .i64 0), .ex (.int .i64 0), .ex (.int .i64 0), .ex (.int .i64 0), .ex (.int .i64 0), .ex (.int .i64 0), .ex (.int .i64 0), .ex (.int .i64 0), .ex (.int .i64 0), .ex (.int .i64 0), .ex (.int .i64 0), .ex (.int .i64 0), .ex (.int .i64 0), .ex (.int .i64 0), .ex (.string ⟨#[]⟩), .ex (.string ⟨#[]⟩), .ex (.slice none 0 0), .ex (.slice none 0 0)]], true⟩)) _
          simp (disch := omega) only [sx, Value.oneCell', ↓reduceIte, Nat.reduceAdd, Nat.reduceMul, Nat.reduceEqDiff, Nat.reduceLT, Nat.reduceLeDiff, Int.reduceToNat, Int.reduceEq, Int.reduceLT, Int.reduceLE, Int.reduceNe, e7, h5, q4, q1]
          first | exact ⟨rfl, .inl trivial⟩ | exact ⟨rfl, .inl rfl⟩ | exact ⟨trivial, .inl trivial⟩ | exact .inl trivial | exact .inl rfl | exact ⟨rfl, .inr rfl⟩ | trivial | exact ⟨rfl, by simp⟩ | simp
      · cases ho
        have lB := (hcc 1 13 rfl).2 (hms 13 3 (by decide +kernel))
        have e11 : tmAt top17_ops top17_ops.size (top17_vs l l2 R x nx k n g ps) tm (fun q => decide (q < 3)) 11 = .ex (.int .i64 k) := by rw [← t11]; kernel_rfl
        generalize hT : tmAt top17_ops top17_ops.size (top17_vs l l2 R x nx k n g ps) tm (fun q => decide (q < 3)) = T at *
        have hcs : c = 0 ∨ c = 1 := by omega
        clear hcc hc lB
        rcases hcs with rfl | rfl
        · refine .inl ?_
          show aval Tryz.prog C ((nx) + 3) (.move (.tmp 11)) _ (AS.ev ⟨T, fun _ => none, 0⟩) (hp) _
          simp (disch := omega) only [sx, Value.oneCell', ↓reduceIte, Nat.reduceAdd, Nat.reduceMul, Nat.reduceEqDiff, Nat.reduceLT, Nat.reduceLeDiff, Int.reduceToNat, Int.reduceEq, Int.reduceLT, Int.reduceLE, Int.reduceNe, e11, h5, q4, q1]
          first | exact ⟨rfl, .inl trivial⟩ | exact ⟨rfl, .inl rfl⟩ | exact ⟨trivial, .inl trivial⟩ | exact .inl trivial | exact .inl rfl | exact ⟨rfl, .inr rfl⟩ | trivial | exact ⟨rfl, by simp⟩ | simp
        · refine .inl ?_
          show aval Tryz.prog C ((nx) + 3) (.move (.tmp 11)) _ (AS.ev ⟨T, fun _ => none, 0⟩) (upd hp (nx + 12) (some ⟨32, [[.ex (.int .i64 0), .ex (.int .i64 0), .ex (.int .i64 0), .ex (.int .i64 0), .ex (.int .i64 0), .ex (.int .i64 0), .ex (.int .i64 0), .ex (.int .i64 0), .ex (.int .i64 0), .ex (.int .i64 0), .ex (.int .i64 0), .ex (.int .i64 0), .ex (.int .i64 0), .ex (.int .i64 0), .ex (.int .i64 0), .ex (.int .i64 0), .ex (.int .i64 0), .ex (.int .i64 0), .ex (.int .i64 0), .ex (.int .i64 0), .ex (.int .i64 0), .ex (.string ⟨#[]⟩), .ex (.string ⟨#[]⟩), .ex (.slice none 0 0), .ex (.slice none 0 0)]], true⟩)) _
          simp (disch := omega) only [sx, Value.oneCell', ↓reduceIte, Nat.reduceAdd, Nat.reduceMul, Nat.reduceEqDiff, Nat.reduceLT, Nat.reduceLeDiff, Int.reduceToNat, Int.reduceEq, Int.reduceLT, Int.reduceLE, Int.reduceNe, e11, h5, q4, q1]
          first | exact ⟨rfl, .inl trivial⟩ | exact ⟨rfl, .inl rfl⟩ | exact ⟨trivial, .inl trivial⟩ | exact .inl trivial | exact .inl rfl | exact ⟨rfl, .inr rfl⟩ | trivial | exact ⟨rfl, by simp⟩ | simp
      · cases ho
        have lB := (hcc 1 13 rfl).2 (hms 13 4 (by decide +kernel))
        have e100 : tmAt top17_ops top17_ops.size (top17_vs l l2 R x nx k n g ps) tm (fun q => decide (q < 4)) 100 = .sl (duesC R) := by kernel_rfl
        have e101 : tmAt top17_ops top17_ops.size (top17_vs l l2 R x nx k n g ps) tm (fun q => decide (q < 4)) 101 = .ex (.int .i64 k) := by kernel_rfl
        generalize hT : tmAt top17_ops top17_ops.size (top17_vs l l2 R x nx k n g ps) tm (fun q => decide (q < 4)) = T at *
        have hcs : c = 0 ∨ c = 1 := by omega
        clear hcc hc lB
        rcases hcs with rfl | rfl
        · refine .inl ?_
          show aval Tryz.prog C ((nx) + 4) (.indexAddr 29 (.tmp 100) (.tmp 101)) _ (AS.ev ⟨T, fun _ => none, 0⟩) (hp) _
          simp (disch := omega) only [sx, Value.oneCell', ↓reduceIte, Nat.reduceAdd, Nat.reduceMul, Nat.reduceEqDiff, Nat.reduceLT, Nat.reduceLeDiff, Int.reduceToNat, Int.reduceEq, Int.reduceLT, Int.reduceLE, Int.reduceNe, e100, e101, h5, q4, q1]
          first | exact ⟨rfl, .inl trivial⟩ | exact ⟨rfl, .inl rfl⟩ | exact ⟨trivial, .inl trivial⟩ | exact .inl trivial | exact .inl rfl | exact ⟨rfl, .inr rfl⟩ | trivial | exact ⟨rfl, by simp⟩ | simp
        · refine .inl ?_
          show aval Tryz.prog C ((nx) + 4) (.indexAddr 29 (.tmp 100) (.tmp 101)) _ (AS.ev ⟨T, fun _ => none, 0⟩) (upd hp (nx + 12) (some ⟨32, [[.ex (.int .i64 0), .ex (.int .i64 0), .ex (.int .i64 0), .ex (.int .i64 0), .ex (.int .i64 0), .ex (.int .i64 0), .ex (.int .i64 0), .ex (.int .i64 0), .ex (.int .i64 0), .ex (.int .i64 0), .ex (.int .i64 0), .ex (.int .i64 0), .ex (.int .i64 0), .ex (.int .i64 0), .ex (.int .i64 0), .ex (.int .i64 0), .ex (.int .i64 0), .ex (.int .i64 0), .ex (.int .i64 0), .ex (.int .i64 0), .ex (.int .i64 0), .ex (.string ⟨#[]⟩), .ex (.string ⟨#[]⟩), .ex (.slice none 0 0), .ex (.slice none 0 0)]], true⟩)) _
          simp (disch := omega) only [sx, Value.oneCell', ↓reduceIte, Nat.reduceAdd, Nat.reduceMul, Nat.reduceEqDiff, Nat.reduceLT, Nat.reduceLeDiff, Int.reduceToNat, Int.reduceEq, Int.reduceLT, Int.reduceLE, Int.reduceNe, e100, e101, h5, q4, q1]
          first | exact ⟨rfl, .inl trivial⟩ | exact ⟨rfl, .inl rfl⟩ | exact ⟨trivial, .inl trivial⟩ | exact .inl trivial | exact .inl rfl | exact ⟨rfl, .inr rfl⟩ | trivial | exact ⟨rfl, by simp⟩ | simp
      · cases ho
        have lB := (hcc 1 13 rfl).2 (hms 13 5 (by decide +kernel))
        have e102 : tmAt top17_ops top17_ops.size (top17_vs l l2 R x nx k n g ps) tm (fun q => decide (q < 5)) 102 = .rp [.ex (.int .i64 x.no), .ex (.int .i64 x.day), .ex (.int .i64 x.pr), .ex (.int .i64 x.it)] 0 := by kernel_rfl
        generalize hT : tmAt top17_ops top17_ops.size (top17_vs l l2 R x nx k n g ps) tm (fun q => decide (q < 5)) = T at *
        have hcs : c = 0 ∨ c = 1 := by omega
        clear hcc hc lB
        rcases hcs with rfl | rfl
        · refine .inl ?_
          show aval Tryz.prog C ((nx) + 5) (.fieldAddr 39 (.tmp 102) 1) _ (AS.ev ⟨T, fun _ => none, 0⟩) (hp) _
          simp (disch := omega) only [sx, Value.oneCell', ↓reduceIte, Nat.reduceAdd, Nat.reduceMul, Nat.reduceEqDiff, Nat.reduceLT, Nat.reduceLeDiff, Int.reduceToNat, Int.reduceEq, Int.reduceLT, Int.reduceLE, Int.reduceNe, e102, h5, q4, q1]
          first | exact ⟨rfl, .inl trivial⟩ | exact ⟨rfl, .inl rfl⟩ | exact ⟨trivial, .inl trivial⟩ | exact .inl trivial | exact .inl rfl | exact ⟨rfl, .inr rfl⟩ | trivial | exact ⟨rfl, by simp⟩ | simp
        · refine .inl ?_
          show aval Tryz.prog C ((nx) + 5) (.fieldAddr 39 (.tmp 102) 1) _ (AS.ev ⟨T, fun _ => none, 0⟩) (upd hp (nx + 12) (some ⟨32, [[.ex (.int .i64 0), .ex (.int .i64 0), .ex (.int .i64 0), .ex (.int .i64 0), .ex (.int .i64 0), .ex (.int .i64 0), .ex (.int .i64 0), .ex (.int .i64 0), .ex (.int .i64 0), .ex (.int .i64 0), .ex (.int .i64 0), .ex (.int .i64 0), .ex (.int .i64 0), .ex (.int .i64 0), .ex (.int .i64 0), .ex (.int .i64 0), .ex (.int .i64 0), .ex (.int .i64 0), .ex (.int .i64 0), .ex (.int .i64 0), .ex (.int .i64 0), .ex (.string ⟨#[]⟩), .ex (.string ⟨#[]⟩), .ex (.slice none 0 0), .ex (.slice none 0 0)]], true⟩)) _
          simp (disch := omega) only [sx, Value.oneCell', ↓reduceIte, Nat.reduceAdd, Nat.reduceMul, Nat.reduceEqDiff, Nat.reduceLT, Nat.reduceLeDiff, Int.reduceToNat, Int.reduceEq, Int.reduceLT, Int.reduceLE, Int.reduceNe, e102, h5, q4, q1]
          first | exact ⟨rfl, .inl trivial⟩ | exact ⟨rfl, .inl rfl⟩ | exact ⟨trivial, .inl trivial⟩ | exact .inl trivial | exact .inl rfl | exact ⟨rfl, .inr rfl⟩ | trivial | exact ⟨rfl, by simp⟩ | simp
      · cases ho
        have lB := (hcc 1 13 rfl).2 (hms 13 6 (by decide +kernel))
        have e103 : tmAt top17_ops top17_ops.size (top17_vs l l2 R x nx k n g ps) tm (fun q => decide (q < 6)) 103 = .rp [.ex (.int .i64 x.no), .ex (.int .i64 x.day), .ex (.int .i64 x.pr), .ex (.int .i64 x.it)] 1 := by kernel_rfl
        generalize hT : tmAt top17_ops top17_ops.size (top17_vs l l2 R x nx k n g ps) tm (fun q => decide (q < 6)) = T at *
        have hcs : c = 0 ∨ c = 1 := by omega
        clear hcc hc lB
        rcases hcs with rfl | rfl
        · refine .inl ?_
          show aval Tryz.prog C ((nx) + 6) (.load 3 (.tmp 103)) _ (AS.ev ⟨T, fun _ => none, 0⟩) (hp) _
          simp (disch := omega) only [sx, Value.oneCell', ↓reduceIte, Nat.reduceAdd, Nat.reduceMul, Nat.reduceEqDiff, Nat.reduceLT, Nat.reduceLeDiff, Int.reduceToNat, Int.reduceEq, Int.reduceLT, Int.reduceLE, Int.reduceNe, e103, h5, q4, q1]
          first | exact ⟨rfl, .inl trivial⟩ | exact ⟨rfl, .inl rfl⟩ | exact ⟨trivial, .inl trivial⟩ | exact .inl trivial | exact .inl rfl | exact ⟨rfl, .inr rfl⟩ | trivial | exact ⟨rfl, by simp⟩ | simp
        · refine .inl ?_
          show aval Tryz.prog C ((nx) + 6) (.load 3 (.tmp 103)) _ (AS.ev ⟨T, fun _ => none, 0⟩) (upd hp (nx + 12) (some ⟨32, [[.ex (.int .i64 0), .ex (.int .i64 0), .ex (.int .i64 0), .ex (.int .i64 0), .ex (.int .i64 0), .ex (.int .i64 0), .ex (.int .i64 0), .ex (.int .i64 0), .ex (.int .i64 0), .ex (.int .i64 0), .ex (.int .i64 0), .ex (.int .i64 0), .ex (.int .i64 0), .ex (.int .i64 0), .ex (.int .i64 0), .ex (.int .i64 0), .ex (.int .i64 0), .ex (.int .i64 0), .ex (.int .i64 0), .ex (.int .i64 0), .ex (.int .i64 0), .ex (.string ⟨#[]⟩), .ex (.string ⟨#[]⟩), .ex (.slice none 0 0), .ex (.slice none 0 0)]], true⟩)) _
          simp (disch := omega) only [sx, Value.oneCell', ↓reduceIte, Nat.reduceAdd, Nat.reduceMul, Nat.reduceEqDiff, Nat.reduceLT, Nat.reduceLeDiff, Int.reduceToNat, Int.reduceEq, Int.reduceLT, Int.reduceLE, Int.reduceNe, e103, h5, q4, q1]
          first | exact ⟨rfl, .inl trivial⟩ | exact ⟨rfl, .inl rfl⟩ | exact ⟨trivial, .inl trivial⟩ | exact .inl trivial | exact .inl rfl | exact ⟨rfl, .inr rfl⟩ | trivial | exact ⟨rfl, by simp⟩ | simp
      · cases ho
        have lB := (hcc 1 13 rfl).2 (hms 13 7 (by decide +kernel))
        have e98 : tmAt top17_ops top17_ops.size (top17_vs l l2 R x nx k n g ps) tm (fun q => decide (q < 7)) 98 = .agg [.ex (.int .i64 l.id), .ex (.int .i64 l.acc), .ex (.int .i64 l.st), .ex (.int .i64 l.pp), .ex (.int .i64 l.pit), .ex (.int .i64 l.fee), .ex (.int .i64 l.pen), .ex (.int .i64 l.chg), .ex (.int .i64 l.prov), .ex (.int .i64 l.loss), .ex (.int .i64 l.recd), .ex (.int .i64 l.t.method), .ex (.int .i64 l.t.prin), .ex (.int .i64 l.t.ppm), .ex (.int .i64 l.t.start), .ex (.int .i64 l.t.every), .ex (.int .i64 l.t.count), .ex (.int .i64 l.t.bal), .ex (.int .i64 l.t.mode), .ex (.int .i64 l.t.pen), .ex (.int .i64 l.t.fee), .ex (.string l.t.cal), .ex (.string l.t.cur), .sl (duesC l.dues), .sl []] := by kernel_rfl
        have e99 : tmAt top17_ops top17_ops.size (top17_vs l l2 R x nx k n g ps) tm (fun q => decide (q < 7)) 99 = .ex (.int .i64 n) := by kernel_rfl
        have e104 : tmAt top17_ops top17_ops.size (top17_vs l l2 R x nx k n g ps) tm (fun q => decide (q < 7)) 104 = .ex (.int .i64 x.day) := by kernel_rfl
        generalize hT : tmAt top17_ops top17_ops.size (top17_vs l l2 R x nx k n g ps) tm (fun q => decide (q < 7)) = T at *
        have hcs : c = 0 ∨ c = 1 := by omega
        clear hcc hc lB
        rcases hcs with rfl | rfl
        · refine .inl ?_
          show aval Tryz.prog C ((nx) + 7) (.call ⟨.value (.func 8), #[.tmp 98, .tmp 99, .tmp 104], #[32, 3, 3]⟩) _ (AS.ev ⟨T, fun _ => none, 0⟩) (hp) _
          simp (disch := omega) only [sx, Value.oneCell', ↓reduceIte, Nat.reduceAdd, Nat.reduceMul, Nat.reduceEqDiff, Nat.reduceLT, Nat.reduceLeDiff, Int.reduceToNat, Int.reduceEq, Int.reduceLT, Int.reduceLE, Int.reduceNe, e98, e99, e104, h5, q4, q1]
          refine call_val byA (aP) ?_
          first | exact ⟨rfl, .inl trivial⟩ | exact ⟨rfl, .inl rfl⟩ | exact ⟨trivial, .inl trivial⟩ | exact .inl trivial | exact .inl rfl | exact ⟨rfl, .inr rfl⟩ | trivial | exact ⟨rfl, by simp⟩ | simp
        · refine .inl ?_
          show aval Tryz.prog C ((nx) + 7) (.call ⟨.value (.func 8), #[.tmp 98, .tmp 99, .tmp 104], #[32, 3, 3]⟩) _ (AS.ev ⟨T, fun _ => none, 0⟩) (upd hp (nx + 12) (some ⟨32, [[.ex (.int .i64 0), .ex (.int .i64 0), .ex (.int .i64 0), .ex (.int .i64 0), .ex (.int .i64 0), .ex (.int .i64 0), .ex (.int .i64 0), .ex (.int .i64 0), .ex (.int .i64 0), .ex (.int .i64 0), .ex (.int .i64 0), .ex (.int .i64 0), .ex (.int .i64 0), .ex (.int .i64 0), .ex (.int .i64 0), .ex (.int .i64 0), .ex (.int .i64 0), .ex (.int .i64 0), .ex (.int .i64 0), .ex (.int .i64 0), .ex (.int .i64 0), .ex (.string ⟨#[]⟩), .ex (.string ⟨#[]⟩), .ex (.slice none 0 0), .ex (.slice none 0 0)]], true⟩)) _
          simp (disch := omega) only [sx, Value.oneCell', ↓reduceIte, Nat.reduceAdd, Nat.reduceMul, Nat.reduceEqDiff, Nat.reduceLT, Nat.reduceLeDiff, Int.reduceToNat, Int.reduceEq, Int.reduceLT, Int.reduceLE, Int.reduceNe, e98, e99, e104, h5, q4, q1]
          refine call_val byA (aP) ?_
          first | exact ⟨rfl, .inl trivial⟩ | exact ⟨rfl, .inl rfl⟩ | exact ⟨trivial, .inl trivial⟩ | exact .inl trivial | exact .inl rfl | exact ⟨rfl, .inr rfl⟩ | trivial | exact ⟨rfl, by simp⟩ | simp
      · cases ho
        have lB := (hcc 1 13 rfl).2 (hms 13 8 (by decide +kernel))
        have e105 : tmAt top17_ops top17_ops.size (top17_vs l l2 R x nx k n g ps) tm (fun q => decide (q < 8)) 105 = .tup [.agg [.ex (.int .i64 l2.id), .ex (.int .i64 l2.acc), .ex (.int .i64 l2.st), .ex (.int .i64 l2.pp), .ex (.int .i64 l2.pit), .ex (.int .i64 l2.fee), .ex (.int .i64 l2.pen), .ex (.int .i64 l2.chg), .ex (.int .i64 l2.prov), .ex (.int .i64 l2.loss), .ex (.int .i64 l2.recd), .ex (.int .i64 l2.t.method), .ex (.int .i64 l2.t.prin), .ex (.int .i64 l2.t.ppm), .ex (.int .i64 l2.t.start), .ex (.int .i64 l2.t.every), .ex (.int .i64 l2.t.count), .ex (.int .i64 l2.t.bal), .ex (.int .i64 l2.t.mode), .ex (.int .i64 l2.t.pen), .ex (.int .i64 l2.t.fee), .ex (.string l2.t.cal), .ex (.string l2.t.cur), .sl (duesC l2.dues), .sl []], ps, .ex (.int .i64 g)] := by kernel_rfl
        generalize hT : tmAt top17_ops top17_ops.size (top17_vs l l2 R x nx k n g ps) tm (fun q => decide (q < 8)) = T at *
        have hcs : c = 0 ∨ c = 1 := by omega
        clear hcc hc lB
        rcases hcs with rfl | rfl
        · refine .inl ?_
          show aval Tryz.prog C ((nx) + 8) (.move (.tmp 105)) _ (AS.ev ⟨T, fun _ => none, 0⟩) (hp) _
          simp (disch := omega) only [sx, Value.oneCell', ↓reduceIte, Nat.reduceAdd, Nat.reduceMul, Nat.reduceEqDiff, Nat.reduceLT, Nat.reduceLeDiff, Int.reduceToNat, Int.reduceEq, Int.reduceLT, Int.reduceLE, Int.reduceNe, e105, h5, q4, q1]
          first | exact ⟨rfl, .inl trivial⟩ | exact ⟨rfl, .inl rfl⟩ | exact ⟨trivial, .inl trivial⟩ | exact .inl trivial | exact .inl rfl | exact ⟨rfl, .inr rfl⟩ | trivial | exact ⟨rfl, by simp⟩ | simp
        · refine .inl ?_
          show aval Tryz.prog C ((nx) + 8) (.move (.tmp 105)) _ (AS.ev ⟨T, fun _ => none, 0⟩) (upd hp (nx + 12) (some ⟨32, [[.ex (.int .i64 0), .ex (.int .i64 0), .ex (.int .i64 0), .ex (.int .i64 0), .ex (.int .i64 0), .ex (.int .i64 0), .ex (.int .i64 0), .ex (.int .i64 0), .ex (.int .i64 0), .ex (.int .i64 0), .ex (.int .i64 0), .ex (.int .i64 0), .ex (.int .i64 0), .ex (.int .i64 0), .ex (.int .i64 0), .ex (.int .i64 0), .ex (.int .i64 0), .ex (.int .i64 0), .ex (.int .i64 0), .ex (.int .i64 0), .ex (.int .i64 0), .ex (.string ⟨#[]⟩), .ex (.string ⟨#[]⟩), .ex (.slice none 0 0), .ex (.slice none 0 0)]], true⟩)) _
          simp (disch := omega) only [sx, Value.oneCell', ↓reduceIte, Nat.reduceAdd, Nat.reduceMul, Nat.reduceEqDiff, Nat.reduceLT, Nat.reduceLeDiff, Int.reduceToNat, Int.reduceEq, Int.reduceLT, Int.reduceLE, Int.reduceNe, e105, h5, q4, q1]
          first | exact ⟨rfl, .inl trivial⟩ | exact ⟨rfl, .inl rfl⟩ | exact ⟨trivial, .inl trivial⟩ | exact .inl trivial | exact .inl rfl | exact ⟨rfl, .inr rfl⟩ | trivial | exact ⟨rfl, by simp⟩ | simp
      · cases ho
        have lB := (hcc 1 13 rfl).2 (hms 13 9 (by decide +kernel))
        have e97 : tmAt top17_ops top17_ops.size (top17_vs l l2 R x nx k n g ps) tm (fun q => decide (q < 9)) 97 = .tup [.agg [.ex (.int .i64 l2.id), .ex (.int .i64 l2.acc), .ex (.int .i64 l2.st), .ex (.int .i64 l2.pp), .ex (.int .i64 l2.pit), .ex (.int .i64 l2.fee), .ex (.int .i64 l2.pen), .ex (.int .i64 l2.chg), .ex (.int .i64 l2.prov), .ex (.int .i64 l2.loss), .ex (.int .i64 l2.recd), .ex (.int .i64 l2.t.method), .ex (.int .i64 l2.t.prin), .ex (.int .i64 l2.t.ppm), .ex (.int .i64 l2.t.start), .ex (.int .i64 l2.t.every), .ex (.int .i64 l2.t.count), .ex (.int .i64 l2.t.bal), .ex (.int .i64 l2.t.mode), .ex (.int .i64 l2.t.pen), .ex (.int .i64 l2.t.fee), .ex (.string l2.t.cal), .ex (.string l2.t.cur), .sl (duesC l2.dues), .sl []], ps, .ex (.int .i64 g)] := by kernel_rfl
        generalize hT : tmAt top17_ops top17_ops.size (top17_vs l l2 R x nx k n g ps) tm (fun q => decide (q < 9)) = T at *
        have hcs : c = 0 ∨ c = 1 := by omega
        clear hcc hc lB
        rcases hcs with rfl | rfl
        · refine .inl ?_
          show aval Tryz.prog C ((nx) + 9) (.extract (.tmp 97) 0) _ (AS.ev ⟨T, fun _ => none, 0⟩) (hp) _
          simp (disch := omega) only [sx, Value.oneCell', ↓reduceIte, Nat.reduceAdd, Nat.reduceMul, Nat.reduceEqDiff, Nat.reduceLT, Nat.reduceLeDiff, Int.reduceToNat, Int.reduceEq, Int.reduceLT, Int.reduceLE, Int.reduceNe, e97, h5, q4, q1]
          first | exact ⟨rfl, .inl trivial⟩ | exact ⟨rfl, .inl rfl⟩ | exact ⟨trivial, .inl trivial⟩ | exact .inl trivial | exact .inl rfl | exact ⟨rfl, .inr rfl⟩ | trivial | exact ⟨rfl, by simp⟩ | simp
        · refine .inl ?_
          show aval Tryz.prog C ((nx) + 9) (.extract (.tmp 97) 0) _ (AS.ev ⟨T, fun _ => none, 0⟩) (upd hp (nx + 12) (some ⟨32, [[.ex (.int .i64 0), .ex (.int .i64 0), .ex (.int .i64 0), .ex (.int .i64 0), .ex (.int .i64 0), .ex (.int .i64 0), .ex (.int .i64 0), .ex (.int .i64 0), .ex (.int .i64 0), .ex (.int .i64 0), .ex (.int .i64 0), .ex (.int .i64 0), .ex (.int .i64 0), .ex (.int .i64 0), .ex (.int .i64 0), .ex (.int .i64 0), .ex (.int .i64 0), .ex (.int .i64 0), .ex (.int .i64 0), .ex (.int .i64 0), .ex (.int .i64 0), .ex (.string ⟨#[]⟩), .ex (.string ⟨#[]⟩), .ex (.slice none 0 0), .ex (.slice none 0 0)]], true⟩)) _
          simp (disch := omega) only [sx, Value.oneCell', ↓reduceIte, Nat.reduceAdd, Nat.reduceMul, Nat.reduceEqDiff, Nat.reduceLT, Nat.reduceLeDiff, Int.reduceToNat, Int.reduceEq, Int.reduceLT, Int.reduceLE, Int.reduceNe, e97, h5, q4, q1]
          first | exact ⟨rfl, .inl trivial⟩ | exact ⟨rfl, .inl rfl⟩ | exact ⟨trivial, .inl trivial⟩ | exact .inl trivial | exact .inl rfl | exact ⟨rfl, .inr rfl⟩ | trivial | exact ⟨rfl, by simp⟩ | simp
      · cases ho
        have e97 : tmAt top17_ops top17_ops.size (top17_vs l l2 R x nx k n g ps) tm (fun q => decide (q < 10)) 97 = .tup [.agg [.ex (.int .i64 l2.id), .ex (.int .i64 l2.acc), .ex (.int .i64 l2.st), .ex (.int .i64 l2.pp), .ex (.int .i64 l2.pit), .ex (.int .i64 l2.fee), .ex (.int .i64 l2.pen), .ex (.int .i64 l2.chg), .ex (.int .i64 l2.prov), .ex (.int .i64 l2.loss), .ex (.int .i64 l2.recd), .ex (.int .i64 l2.t.method), .ex (.int .i64 l2.t.prin), .ex (.int .i64 l2.t.ppm), .ex (.int .i64 l2.t.start), .ex (.int .i64 l2.t.every), .ex (.int .i64 l2.t.count), .ex (.int .i64 l2.t.bal), .ex (.int .i64 l2.t.mode), .ex (.int .i64 l2.t.pen), .ex (.int .i64 l2.t.fee), .ex (.string l2.t.cal), .ex (.string l2.t.cur), .sl (duesC l2.dues), .sl []], ps, .ex (.int .i64 g)] := by kernel_rfl
        generalize hT : tmAt top17_ops top17_ops.size (top17_vs l l2 R x nx k n g ps) tm (fun q => decide (q < 10)) = T at *
        have hcs : c = 0 ∨ c = 1 ∨ c = 2 := by omega
        clear hcc hc
        rcases hcs with rfl | rfl | rfl
        · refine .inl ?_
          show aval Tryz.prog C ((nx) + 10) (.extract (.tmp 97) 1) _ (AS.ev ⟨T, fun _ => none, 0⟩) (hp) _
          simp (disch := omega) only [sx, Value.oneCell', ↓reduceIte, Nat.reduceAdd, Nat.reduceMul, Nat.reduceEqDiff, Nat.reduceLT, Nat.reduceLeDiff, Int.reduceToNat, Int.reduceEq, Int.reduceLT, Int.reduceLE, Int.reduceNe, e97, h5, q4, q1]
          first | exact ⟨rfl, .inl trivial⟩ | exact ⟨rfl, .inl rfl⟩ | exact ⟨trivial, .inl trivial⟩ | exact .inl trivial | exact .inl rfl | exact ⟨rfl, .inr rfl⟩ | trivial | exact ⟨rfl, by simp⟩ | simp
        · refine .inl ?_
          show aval Tryz.prog C ((nx) + 10) (.extract (.tmp 97) 1) _ (AS.ev ⟨T, fun _ => none, 0⟩) (upd hp (nx + 12) (some ⟨32, [[.ex (.int .i64 0), .ex (.int .i64 0), .ex (.int .i64 0), .ex (.int .i64 0), .ex (.int .i64 0), .ex (.int .i64 0), .ex (.int .i64 0), .ex (.int .i64 0), .ex (.int .i64 0), .ex (.int .i64 0), .ex (.int .i64 0), .ex (.int .i64 0), .ex (.int .i64 0), .ex (.int .i64 0), .ex (.int .i64 0), .ex (.int .i64 0), .ex (.int .i64 0), .ex (.int .i64 0), .ex (.int .i64 0), .ex (.int .i64 0), .ex (.int .i64 0), .ex (.string ⟨#[]⟩), .ex (.string ⟨#[]⟩), .ex (.slice none 0 0), .ex (.slice none 0 0)]], true⟩)) _
          simp (disch := omega) only [sx, Value.oneCell', ↓reduceIte, Nat.reduceAdd, Nat.reduceMul, Nat.reduceEqDiff, Nat.reduceLT, Nat.reduceLeDiff, Int.reduceToNat, Int.reduceEq, Int.reduceLT, Int.reduceLE, Int.reduceNe, e97, h5, q4, q1]
          first | exact ⟨rfl, .inl trivial⟩ | exact ⟨rfl, .inl rfl⟩ | exact ⟨trivial, .inl trivial⟩ | exact .inl trivial | exact .inl rfl | exact ⟨rfl, .inr rfl⟩ | trivial | exact ⟨rfl, by simp⟩ | simp
        · refine .inl ?_
          show aval Tryz.prog C ((nx) + 10) (.extract (.tmp 97) 1) _ (AS.ev ⟨T, fun _ => none, 0⟩) (upd (upd hp (nx + 12) (some ⟨32, [[.ex (.int .i64 0), .ex (.int .i64 0), .ex (.int .i64 0), .ex (.int .i64 0), .ex (.int .i64 0), .ex (.int .i64 0), .ex (.int .i64 0), .ex (.int .i64 0), .ex (.int .i64 0), .ex (.int .i64 0), .ex (.int .i64 0), .ex (.int .i64 0), .ex (.int .i64 0), .ex (.int .i64 0), .ex (.int .i64 0), .ex (.int .i64 0), .ex (.int .i64 0), .ex (.int .i64 0), .ex (.int .i64 0), .ex (.int .i64 0), .ex (.int .i64 0), .ex (.string ⟨#[]⟩), .ex (.string ⟨#[]⟩), .ex (.slice none 0 0), .ex (.slice none 0 0)]], true⟩)) (nx + 12) (some ⟨32, [[.ex (.int .i64 l2.id), .ex (.int .i64 l2.acc), .ex (.int .i64 l2.st), .ex (.int .i64 l2.pp), .ex (.int .i64 l2.pit), .ex (.int .i64 l2.fee), .ex (.int .i64 l2.pen), .ex (.int .i64 l2.chg), .ex (.int .i64 l2.prov), .ex (.int .i64 l2.loss), .ex (.int .i64 l2.recd), .ex (.int .i64 l2.t.method), .ex (.int .i64 l2.t.prin), .ex (.int .i64 l2.t.ppm), .ex (.int .i64 l2.t.start), .ex (.int .i64 l2.t.every), .ex (.int .i64 l2.t.count), .ex (.int .i64 l2.t.bal), .ex (.int .i64 l2.t.mode), .ex (.int .i64 l2.t.pen), .ex (.int .i64 l2.t.fee), .ex (.string l2.t.cal), .ex (.string l2.t.cur), .sl (duesC l2.dues), .sl []]], true⟩)) _
          simp (disch := omega) only [sx, Value.oneCell', ↓reduceIte, Nat.reduceAdd, Nat.reduceMul, Nat.reduceEqDiff, Nat.reduceLT, Nat.reduceLeDiff, Int.reduceToNat, Int.reduceEq, Int.reduceLT, Int.reduceLE, Int.reduceNe, e97, h5, q4, q1]
          first | exact ⟨rfl, .inl trivial⟩ | exact ⟨rfl, .inl rfl⟩ | exact ⟨trivial, .inl trivial⟩ | exact .inl trivial | exact .inl rfl | exact ⟨rfl, .inr rfl⟩ | trivial | exact ⟨rfl, by simp⟩ | simp
      · cases ho
        have e97 : tmAt top17_ops top17_ops.size (top17_vs l l2 R x nx k n g ps) tm (fun q => decide (q < 11)) 97 = .tup [.agg [.ex (.int .i64 l2.id), .ex (.int .i64 l2.acc), .ex (.int .i64 l2.st), .ex (.int .i64 l2.pp), .ex (.int .i64 l2.pit), .ex (.int .i64 l2.fee), .ex (.int .i64 l2.pen), .ex (.int .i64 l2.chg), .ex (.int .i64 l2.prov), .ex (.int .i64 l2.loss), .ex (.int .i64 l2.recd), .ex (.int .i64 l2.t.method), .ex (.int .i64 l2.t.prin), .ex (.int .i64 l2.t.ppm), .ex (.int .i64 l2.t.start), .ex (.int .i64 l2.t.every), .ex (.int .i64 l2.t.count), .ex (.int .i64 l2.t.bal), .ex (.int .i64 l2.t.mode), .ex (.int .i64 l2.t.pen), .ex (.int .i64 l2.t.fee), .ex (.string l2.t.cal), .ex (.string l2.t.cur), .sl (duesC l2.dues), .sl []], ps, .ex (.int .i64 g)] := by kernel_rfl
        generalize hT : tmAt top17_ops top17_ops.size (top17_vs l l2 R x nx k n g ps) tm (fun q => decide (q < 11)) = T at *
        have hcs : c = 0 ∨ c = 1 ∨ c = 2 := by omega
        clear hcc hc
        rcases hcs with rfl | rfl | rfl
        · refine .inl ?_
          show aval Tryz.prog C ((nx) + 11) (.extract (.tmp 97) 2) _ (AS.ev ⟨T, fun _ => none, 0⟩) (hp) _
          simp (disch := omega) only [sx, Value.oneCell', ↓reduceIte, Nat.reduceAdd, Nat.reduceMul, Nat.reduceEqDiff, Nat.reduceLT, Nat.reduceLeDiff, Int.reduceToNat, Int.reduceEq, Int.reduceLT, Int.reduceLE, Int.reduceNe, e97, h5, q4, q1]
          first | exact ⟨rfl, .inl trivial⟩ | exact ⟨rfl, .inl rfl⟩ | exact ⟨trivial, .inl trivial⟩ | exact .inl trivial | exact .inl rfl | exact ⟨rfl, .inr rfl⟩ | trivial | exact ⟨rfl, by simp⟩ | simp
        · refine .inl ?_
          show aval Tryz.prog C ((nx) + 11) (.extract (.tmp 97) 2) _ (AS.ev ⟨T, fun _ => none, 0⟩) (upd hp (nx + 12) (some ⟨32, [[.ex (.int .i64 0), .ex (.int .i64 0), .ex (.int .i64 0), .ex (.int .i64 0), .ex (.int .i64 0), .ex (.int .i64 0), .ex (.int .i64 0), .ex (.int .i64 0), .ex (.int .i64 0), .ex (.int .i64 0), .ex (.int .i64 0), .ex (.int .i64 0), .ex (.int .i64 0), .ex (.int .i64 0), .ex (.int .i64 0), .ex (.int .i64 0), .ex (.int .i64 0), .ex (.int .i64 0), .ex (.int .i64 0), .ex (.int .i64 0), .ex (.int .i64 0), .ex (.string ⟨#[]⟩), .ex (.string ⟨#[]⟩), .ex (.slice none 0 0), .ex (.slice none 0 0)]], true⟩)) _
          simp (disch := omega) only [sx, Value.oneCell', ↓reduceIte, Nat.reduceAdd, Nat.reduceMul, Nat.reduceEqDiff, Nat.reduceLT, Nat.reduceLeDiff, Int.reduceToNat, Int.reduceEq, Int.reduceLT, Int.reduceLE, Int.reduceNe, e97, h5, q4, q1]
          first | exact ⟨rfl, .inl trivial⟩ | exact ⟨rfl, .inl rfl⟩ | exact ⟨trivial, .inl trivial⟩ | exact .inl trivial | exact .inl rfl | exact ⟨rfl, .inr rfl⟩ | trivial | exact ⟨rfl, by simp⟩ | simp
        · refine .inl ?_
          show aval Tryz.prog C ((nx) + 11) (.extract (.tmp 97) 2) _ (AS.ev ⟨T, fun _ => none, 0⟩) (upd (upd hp (nx + 12) (some ⟨32, [[.ex (.int .i64 0), .ex (.int .i64 0), .ex (.int .i64 0), .ex (.int .i64 0), .ex (.int .i64 0), .ex (.int .i64 0), .ex (.int .i64 0), .ex (.int .i64 0), .ex (.int .i64 0), .ex (.int .i64 0), .ex (.int .i64 0), .ex (.int .i64 0), .ex (.int .i64 0), .ex (.int .i64 0), .ex (.int .i64 0), .ex (.int .i64 0), .ex (.int .i64 0), .ex (.int .i64 0), .ex (.int .i64 0), .ex (.int .i64 0), .ex (.int .i64 0), .ex (.string ⟨#[]⟩), .ex (.string ⟨#[]⟩), .ex (.slice none 0 0), .ex (.slice none 0 0)]], true⟩)) (nx + 12) (some ⟨32, [[.ex (.int .i64 l2.id), .ex (.int .i64 l2.acc), .ex (.int .i64 l2.st), .ex (.int .i64 l2.pp), .ex (.int .i64 l2.pit), .ex (.int .i64 l2.fee), .ex (.int .i64 l2.pen), .ex (.int .i64 l2.chg), .ex (.int .i64 l2.prov), .ex (.int .i64 l2.loss), .ex (.int .i64 l2.recd), .ex (.int .i64 l2.t.method), .ex (.int .i64 l2.t.prin), .ex (.int .i64 l2.t.ppm), .ex (.int .i64 l2.t.start), .ex (.int .i64 l2.t.every), .ex (.int .i64 l2.t.count), .ex (.int .i64 l2.t.bal), .ex (.int .i64 l2.t.mode), .ex (.int .i64 l2.t.pen), .ex (.int .i64 l2.t.fee), .ex (.string l2.t.cal), .ex (.string l2.t.cur), .sl (duesC l2.dues), .sl []]], true⟩)) _
          simp (disch := omega) only [sx, Value.oneCell', ↓reduceIte, Nat.reduceAdd, Nat.reduceMul, Nat.reduceEqDiff, Nat.reduceLT, Nat.reduceLeDiff, Int.reduceToNat, Int.reduceEq, Int.reduceLT, Int.reduceLE, Int.reduceNe, e97, h5, q4, q1]
          first | exact ⟨rfl, .inl trivial⟩ | exact ⟨rfl, .inl rfl⟩ | exact ⟨trivial, .inl trivial⟩ | exact .inl trivial | exact .inl rfl | exact ⟨rfl, .inr rfl⟩ | trivial | exact ⟨rfl, by simp⟩ | simp
      · cases ho
        have lA := (hcc 1 13 rfl).1 (hms 14 13 (by decide +kernel))
        have e107 : tmAt top17_ops top17_ops.size (top17_vs l l2 R x nx k n g ps) tm (fun q => decide (q < 14)) 107 = ps := by kernel_rfl
        generalize hT : tmAt top17_ops top17_ops.size (top17_vs l l2 R x nx k n g ps) tm (fun q => decide (q < 14)) = T at *
        have hcs : c = 2 := by omega
        clear hcc hc lA
        rcases hcs with rfl
        · refine .inl ?_
          show aval Tryz.prog C ((nx) + 14) (.assign (.tmp 107)) _ (AS.ev ⟨T, fun _ => none, 0⟩) (upd (upd hp (nx + 12) (some ⟨32, [[.ex (.int .i64 0), .ex (.int .i64 0), .ex (.int .i64 0), .ex (.int .i64 0), .ex (.int .i64 0), .ex (.int .i64 0), .ex (.int .i64 0), .ex (.int .i64 0), .ex (.int .i64 0), .ex (.int .i64 0), .ex (.int .i64 0), .ex (.int .i64 0), .ex (.int .i64 0), .ex (.int .i64 0), .ex (.int .i64 0), .ex (.int .i64 0), .ex (.int .i64 0), .ex (.int .i64 0), .ex (.int .i64 0), .ex (.int .i64 0), .ex (.int .i64 0), .ex (.string ⟨#[]⟩), .ex (.string ⟨#[]⟩), .ex (.slice none 0 0), .ex (.slice none 0 0)]], true⟩)) (nx + 12) (some ⟨32, [[.ex (.int .i64 l2.id), .ex (.int .i64 l2.acc), .ex (.int .i64 l2.st), .ex (.int .i64 l2.pp), .ex (.int .i64 l2.pit), .ex (.int .i64 l2.fee), .ex (.int .i64 l2.pen), .ex (.int .i64 l2.chg), .ex (.int .i64 l2.prov), .ex (.int .i64 l2.loss), .ex (.int .i64 l2.recd), .ex (.int .i64 l2.t.method), .ex (.int .i64 l2.t.prin), .ex (.int .i64 l2.t.ppm), .ex (.int .i64 l2.t.start), .ex (.int .i64 l2.t.every), .ex (.int .i64 l2.t.count), .ex (.int .i64 l2.t.bal), .ex (.int .i64 l2.t.mode), .ex (.int .i64 l2.t.pen), .ex (.int .i64 l2.t.fee), .ex (.string l2.t.cal), .ex (.string l2.t.cur), .sl (duesC l2.dues), .sl []]], true⟩)) _
          simp (disch := omega) only [sx, Value.oneCell', ↓reduceIte, Nat.reduceAdd, Nat.reduceMul, Nat.reduceEqDiff, Nat.reduceLT, Nat.reduceLeDiff, Int.reduceToNat, Int.reduceEq, Int.reduceLT, Int.reduceLE, Int.reduceNe, e107, h5, q4, q1]
          first | exact ⟨rfl, .inl trivial⟩ | exact ⟨rfl, .inl rfl⟩ | exact ⟨trivial, .inl trivial⟩ | exact .inl trivial | exact .inl rfl | exact ⟨rfl, .inr rfl⟩ | trivial | exact ⟨rfl, by simp⟩ | simp
      · cases ho
        have lA := (hcc 1 13 rfl).1 (hms 15 13 (by decide +kernel))
        have e108 : tmAt top17_ops top17_ops.size (top17_vs l l2 R x nx k n g ps) tm (fun q => decide (q < 15)) 108 = .ex (.int .i64 g) := by kernel_rfl
        generalize hT : tmAt top17_ops top17_ops.size (top17_vs l l2 R x nx k n g ps) tm (fun q => decide (q < 15)) = T at *
        have hcs : c = 2 := by omega
        clear hcc hc lA
        rcases hcs with rfl
        · refine .inl ?_
          show aval Tryz.prog C ((nx) + 15) (.assign (.tmp 108)) _ (AS.ev ⟨T, fun _ => none, 0⟩) (upd (upd hp (nx + 12) (some ⟨32, [[.ex (.int .i64 0), .ex (.int .i64 0), .ex (.int .i64 0), .ex (.int .i64 0), .ex (.int .i64 0), .ex (.int .i64 0), .ex (.int .i64 0), .ex (.int .i64 0), .ex (.int .i64 0), .ex (.int .i64 0), .ex (.int .i64 0), .ex (.int .i64 0), .ex (.int .i64 0), .ex (.int .i64 0), .ex (.int .i64 0), .ex (.int .i64 0), .ex (.int .i64 0), .ex (.int .i64 0), .ex (.int .i64 0), .ex (.int .i64 0), .ex (.int .i64 0), .ex (.string ⟨#[]⟩), .ex (.string ⟨#[]⟩), .ex (.slice none 0 0), .ex (.slice none 0 0)]], true⟩)) (nx + 12) (some ⟨32, [[.ex (.int .i64 l2.id), .ex (.int .i64 l2.acc), .ex (.int .i64 l2.st), .ex (.int .i64 l2.pp), .ex (.int .i64 l2.pit), .ex (.int .i64 l2.fee), .ex (.int .i64 l2.pen), .ex (.int .i64 l2.chg), .ex (.int .i64 l2.prov), .ex (.int .i64 l2.loss), .ex (.int .i64 l2.recd), .ex (.int .i64 l2.t.method), .ex (.int .i64 l2.t.prin), .ex (.int .i64 l2.t.ppm), .ex (.int .i64 l2.t.start), .ex (.int .i64 l2.t.every), .ex (.int .i64 l2.t.count), .ex (.int .i64 l2.t.bal), .ex (.int .i64 l2.t.mode), .ex (.int .i64 l2.t.pen), .ex (.int .i64 l2.t.fee), .ex (.string l2.t.cal), .ex (.string l2.t.cur), .sl (duesC l2.dues), .sl []]], true⟩)) _
          simp (disch := omega) only [sx, Value.oneCell', ↓reduceIte, Nat.reduceAdd, Nat.reduceMul, Nat.reduceEqDiff, Nat.reduceLT, Nat.reduceLeDiff, Int.reduceToNat, Int.reduceEq, Int.reduceLT, Int.reduceLE, Int.reduceNe, e108, h5, q4, q1]
          first | exact ⟨rfl, .inl trivial⟩ | exact ⟨rfl, .inl rfl⟩ | exact ⟨trivial, .inl trivial⟩ | exact .inl trivial | exact .inl rfl | exact ⟨rfl, .inr rfl⟩ | trivial | exact ⟨rfl, by simp⟩ | simp
  · refine hq _ ?_ ?_ ?_ ?_ ?_ ?_ ?_ ?_ ?_ ?_
    · kernel_rfl
    · rw [← t5]; kernel_rfl
    · rw [← t7]; kernel_rfl
    · kernel_rfl
    · kernel_rfl
    · rw [← t11]; kernel_rfl
    · rw [← t12]; kernel_rfl
    · kernel_rfl
    · kernel_rfl
    · kernel_rfl
end Go.Proofs.YtcoflmckbcnlpaaGreatDoor
namespace Go.Proofs.YtcoflmckbcnlpaaGreatDoor
open Go.RowKit
set_option maxRecDepth 100000
set_option linter.unusedSimpArgs false
set_option maxHeartbeats 8000000 in
theorem Top_loop {t : TermV} {c : CalV} (hA : Con Tryz.prog CtxP 5 [] (.val (.ex (.bool true)))) (a1 : Con Tryz.prog CtxP 4 [.agg [.ex (.int .i64 t.method), .ex (.int .i64 t.prin), .ex (.int .i64 t.ppm), .ex (.int .i64 t.start), .ex (.int .i64 t.every), .ex (.int .i64 t.count), .ex (.int .i64 t.bal), .ex (.int .i64 t.mode), .ex (.int .i64 t.pen), .ex (.int .i64 t.fee), .ex (.string t.cal), .ex (.string t.cur)], .agg [.ex (.string c.name), .sl (intsC c.we), .sl (intsC c.ho)]] (.val (.ex (.bool true))))
    {R : List DueV} (aB : Con Tryz.prog CtxP 7 [.agg [.ex (.int .i64 t.method), .ex (.int .i64 t.prin), .ex (.int .i64 t.ppm), .ex (.int .i64 t.start), .ex (.int .i64 t.every), .ex (.int .i64 t.count), .ex (.int .i64 t.bal), .ex (.int .i64 t.mode), .ex (.int .i64 t.pen), .ex (.int .i64 t.fee), .ex (.string t.cal), .ex (.string t.cur)], .agg [.ex (.string c.name), .sl (intsC c.we), .sl (intsC c.ho)]] (.val (.tup [.sl (duesC R), .ex (.int .i64 0)]))) (h : Life t R) (h40 : R.length ≤ 40) :
    Con Tryz.prog CtxP 3 [.agg [.ex (.int .i64 t.method), .ex (.int .i64 t.prin), .ex (.int .i64 t.ppm), .ex (.int .i64 t.start), .ex (.int .i64 t.every), .ex (.int .i64 t.count), .ex (.int .i64 t.bal), .ex (.int .i64 t.mode), .ex (.int .i64 t.pen), .ex (.int .i64 t.fee), .ex (.string t.cal), .ex (.string t.cur)], .agg [.ex (.string c.name), .sl (intsC c.we), .sl (intsC c.ho)]] (.val (.ex (.bool true))) := by
  have aD := Disburse_con aB (.inl ⟨rfl, (loan_start h).symm⟩)
  have q1 := dues_len R
  have q2 := h.d.len
  have t0 := st_start (R := R) (by rw [h.prin]; exact h.p1)
  have hpr := h.prin
  have tp := sum_top h.d
  have aT := Total_con R (by omega) h.d.d4
  have hE := st_end R
  have aO := Outstanding_con (loanAt t R R.length) h.d (sumPr_nonneg fun x hx => h.d.s.p x (List.mem_of_mem_take hx)) (by show sumPr (R.take R.length) ≤ _; rw [List.take_length]; omega)
  dsimp only [loanAt] at aD aO
  rw [t0, show sumPr (R.take 0) = 0 from rfl, show sumIt (R.take 0) = 0 from rfl] at aD
  rw [List.take_length, Int.sub_self, hE] at aO
  (refine con_val base Tryz.func3 rfl rfl (by kernel_rfl) (Nat.le_of_ble_eq_true rfl) ?_; rw [init_eq])
  (repeat' (first | exact trivial | refine stq ?_ | (refine awp_ret ?_; simp only [then_ret, block_ret, end_ret]) | ((first | refine cv (a1) ?_ | refine cv (aD) ?_ | refine cv (aB) ?_ | refine stp ?_ | refine nqif_ways (fun h => ?_) ?_ | ((first | refine gif_ways (fun h => ?_) (fun h => ?_) | refine cif_ways (fun h => ?_) (fun h => ?_)) <;> (try simp only [sxn] at h) <;> (try (exfalso; omega)))) <;> (try (refine wS ?_)))))
  refine vloop (fun n tm hp nx => ∃ (k b : Nat), n = R.length - k ∧ k ≤ R.length ∧ b < nx ∧ 0 < nx ∧ ¬ b = 0 ∧ tm 2 = .pt 0 0 0 ∧ hp 0 = some ⟨23, [[.ex (.int .i64 t.method), .ex (.int .i64 t.prin), .ex (.int .i64 t.ppm), .ex (.int .i64 t.start), .ex (.int .i64 t.every), .ex (.int .i64 t.count), .ex (.int .i64 t.bal), .ex (.int .i64 t.mode), .ex (.int .i64 t.pen), .ex (.int .i64 t.fee), .ex (.string t.cal), .ex (.string t.cur)]], true⟩ ∧ tm 5 = .pt b 0 0 ∧ hp b = some ⟨32, [[.ex (.int .i64 ((loanAt t R k)).id), .ex (.int .i64 ((loanAt t R k)).acc), .ex (.int .i64 ((loanAt t R k)).st), .ex (.int .i64 ((loanAt t R k)).pp), .ex (.int .i64 ((loanAt t R k)).pit), .ex (.int .i64 ((loanAt t R k)).fee), .ex (.int .i64 ((loanAt t R k)).pen), .ex (.int .i64 ((loanAt t R k)).chg), .ex (.int .i64 ((loanAt t R k)).prov), .ex (.int .i64 ((loanAt t R k)).loss), .ex (.int .i64 ((loanAt t R k)).recd), .ex (.int .i64 ((loanAt t R k)).t.method), .ex (.int .i64 ((loanAt t R k)).t.prin), .ex (.int .i64 ((loanAt t R k)).t.ppm), .ex (.int .i64 ((loanAt t R k)).t.start), .ex (.int .i64 ((loanAt t R k)).t.every), .ex (.int .i64 ((loanAt t R k)).t.count), .ex (.int .i64 ((loanAt t R k)).t.bal), .ex (.int .i64 ((loanAt t R k)).t.mode), .ex (.int .i64 ((loanAt t R k)).t.pen), .ex (.int .i64 ((loanAt t R k)).t.fee), .ex (.string ((loanAt t R k)).t.cal), .ex (.string ((loanAt t R k)).t.cur), .sl (duesC ((loanAt t R k)).dues), .sl []]], true⟩ ∧ tm 7 = .sl (duesC R) ∧ tm 9 = .ex (.int .i64 (sumPr (R.take k))) ∧ tm 10 = .ex (.int .i64 (sumIt (R.take k))) ∧ tm 11 = .ex (.int .i64 k)) R.length ⟨0, 13, rfl, Nat.zero_le _, by omega, by omega, by decide, by exact byS, by exact byQ, by exact byS, by (dsimp only [loanAt]; rw [t0, show sumPr (R.take 0) = 0 from rfl, show sumIt (R.take 0) = 0 from rfl]; exact byQ), by exact byS, by (rw [show sumPr (R.take 0) = 0 from rfl]; exact byS), by (rw [show sumIt (R.take 0) = 0 from rfl]; exact byS), by exact byS⟩ ?_
  clear aD aB a1 t0
  rintro n tm hp nx ⟨k, b, rfl, hk, hb, h0, hb0, g2, gt, g5, gb, g7, g9, g10, g11⟩
  have gb0 := Lib.hid gb
  have hb1 : ¬ 0 = b := fun h => hb0 h.symm
  dsimp only [loanAt] at gb
  by_cases hlt : k < R.length
  · clear aT aO hE
    have e0 : R[k]? = some R[k] := List.getElem?_eq_getElem hlt
    have hmem := List.getElem_mem hlt
    generalize R[k] = x at e0 hmem
    obtain ⟨x1, x2, x3, x4, x5, x6⟩ := h.d.s.pos x hmem
    have q4 := dues_get e0
    have n1 := sumPr_next e0
    have n2 := sumIt_next e0
    have u1 := sumPr_nonneg (l := R.take k) fun y hy => h.d.s.p y (List.mem_of_mem_take hy)
    have u2 := sumIt_nonneg (l := R.take k) fun y hy => h.d.s.i y (List.mem_of_mem_take hy)
    have u3 := sumPr_le h.d.s.p (k + 1)
    have u4 := sumIt_le h.d.s.i (k + 1)
    have hlt' : (k : Int) < R.length := by omega
    by_cases hz : x.pr + x.it = 0
    · obtain ⟨_, _, z3, z4, z5⟩ := st_skip h.d.s e0 hz
      replace z3 := Lib.hid z3
      replace z4 := Lib.hid z4
      replace z5 := Lib.hid z5
      clear n1 n2 e0 u3 u4 hmem
      (repeat' (first | exact trivial | refine stq ?_ | (refine awp_ret ?_; simp only [then_ret, block_ret, end_ret]) | ((first | refine stp ?_ | refine nqif_ways (fun h => ?_) ?_ | ((first | refine gif_ways (fun h => ?_) (fun h => ?_) | refine cif_ways (fun h => ?_) (fun h => ?_)) <;> (try simp only [sxn] at h) <;> (try (exfalso; omega)))) <;> (try (refine wS ?_)))))
      all_goals exact kround_i (R.length - (k + 1)) (by omega) ⟨k + 1, b, rfl, by omega, by omega, by omega, hb0, by exact byS, by exact byQ, by exact byS, by (dsimp only [loanAt]; rw [z3.out, z4.out, z5.out]; exact byQ), by exact byS, by (rw [z3.out]; exact byS), by (rw [z4.out]; exact byS), by exact byS⟩
    · have hs : stAt R k = 1 := by
        rcases Classical.em (stAt R k = 1) with hs | hs
        · exact hs
        · exact absurd (st_done h.d.s e0 hs) hz
      rw [hs] at gb
      by_cases hk1 : k + 1 < R.length
      · have ey : R[k + 1]? = some R[k + 1] := List.getElem?_eq_getElem hk1
        generalize R[k + 1] = y at ey
        have q5 := dues_get ey
        have hlt1 : (k : Int) + 1 < R.length := by omega
        have hkn : ((k : Int) + 1).toNat = k + 1 := by omega
        by_cases hd : y.day = x.day
        · clear n1 n2 e0 ey hmem hs
          (repeat' (first | exact trivial | refine stq ?_ | (refine awp_ret ?_; simp only [then_ret, block_ret, end_ret]) | ((first | refine cv (hA) ?_ | refine stp ?_ | refine nqif_ways (fun h => ?_) ?_ | ((first | refine gif_ways (fun h => ?_) (fun h => ?_) | refine cif_ways (fun h => ?_) (fun h => ?_)) <;> (try simp only [sxn] at h) <;> (try (exfalso; omega)))) <;> (try (refine wS ?_)))))
          all_goals simp only [sxd, z0, p0, Nat.reduceEqDiff, ↓reduceIte, Tryz.f3, *]
        · have h2 : ∀ z, R[k + 1]? = some z → z.day ≠ x.day := fun z hz' => by rw [ey] at hz'; cases hz'; exact hd
          clear ey
          rcases Int.lt_or_le 1000000000000 (x.pr + x.it) with hm | hm
          rotate_left
          · have hm' : ¬ 1000000000000 < x.pr + x.it := by omega
            obtain ⟨ps, aP, pl, pb, k5, k4, k3⟩ := Pay_life h e0 hs hz hm h2
            have aK5 := kind_con ps 5 pl pb
            have aK4 := kind_con ps 4 pl pb
            have aK3 := kind_con ps 3 pl pb
            have aY := ADays_con (loanAt t R (k + 1)) x.day h.d x5 x6
            rw [k5] at aK5
            rw [k4] at aK4
            rw [k3] at aK3
            rw [show daysF x.day (loanAt t R (k + 1)).pp (loanAt t R (k + 1)).pit 0 0 (loanAt t R (k + 1)).dues = 0 from life_days h.d.s e0 h2] at aY
            have v1 : sumPr (R.take k) + x.pr ≤ 1000000000000000 := by omega
            have v2 : sumIt (R.take k) + x.it ≤ 1000000000000000 := by omega
            replace n1 := Lib.hid n1
            replace n2 := Lib.hid n2
            clear u3 u4 e0 h2 k5 k4 k3 pl pb hmem hs h
            (repeat' (first | exact trivial | refine stq ?_ | (refine awp_ret ?_; simp only [then_ret, block_ret, end_ret]) | ((first | refine stn ?_ | refine nqif_ways (fun h => ?_) ?_ | ((first | refine gif_ways (fun h => ?_) (fun h => ?_) | refine cif_ways (fun h => ?_) (fun h => ?_)) <;> (try simp only [sxn] at h) <;> (try (exfalso; omega)))) <;> (try (refine wS ?_)))))
            refine vdraws (by kernel_rfl) ?_
            (refine wS ?_)
            (repeat' (first | exact trivial | refine stq ?_ | (refine awp_ret ?_; simp only [then_ret, block_ret, end_ret]) | ((first | refine stn ?_ | refine nqif_ways (fun h => ?_) ?_ | ((first | refine gif_ways (fun h => ?_) (fun h => ?_) | refine cif_ways (fun h => ?_) (fun h => ?_)) <;> (try simp only [sxn] at h) <;> (try (exfalso; omega)))) <;> (try (refine wS ?_)))))
            refine vdraws (by kernel_rfl) ?_
            (refine wS ?_)
            (repeat' (first | exact trivial | refine stq ?_ | (refine awp_ret ?_; simp only [then_ret, block_ret, end_ret]) | ((first | refine stn ?_ | refine nqif_ways (fun h => ?_) ?_ | ((first | refine gif_ways (fun h => ?_) (fun h => ?_) | refine cif_ways (fun h => ?_) (fun h => ?_)) <;> (try simp only [sxn] at h) <;> (try (exfalso; omega)))) <;> (try (refine wS ?_)))))
            refine (?_ : awp Tryz.prog CtxP (.region 17 top17_ops true) _ _)
            refine top17 base (b := b) (l := loanAt t R k) (l2 := loanAt t R (k + 1)) (R := R) (x := x) (k := k) (n := x.pr + x.it) (g := 0) (ps := .sl (partsC ps)) (by exact byQ) (by exact byQ) (by exact byQ) (by exact byQ) gb0.out (by omega) q4 q1 hlt aP ?_
            clear aP gb0
            intro tm2 c2 c5 c7 c9 c10 c11 c12 c13 c14 c15
            replace c2 : tm2 2 = .pt 0 0 0 := c2.trans (by exact byQ)
            replace c9 : tm2 9 = .ex (.int .i64 (sumPr (R.take k))) := c9.trans (by exact byQ)
            replace c10 : tm2 10 = .ex (.int .i64 (sumIt (R.take k))) := c10.trans (by exact byQ)
            clear g2 g5 g7 g9 g10 g11
            show awp Tryz.prog CtxP _ _ _
            (repeat' (first | exact trivial | refine stq ?_ | (refine awp_ret ?_; simp only [then_ret, block_ret, end_ret]) | ((first | refine cv (aK5) ?_ | refine cv (aK4) ?_ | refine cv (aK3) ?_ | refine cv (aY) ?_ | refine stp ?_ | refine nqif_ways (fun h => ?_) ?_ | ((first | refine gif_ways (fun h => ?_) (fun h => ?_) | refine cif_ways (fun h => ?_) (fun h => ?_)) <;> (try simp only [sxn] at h) <;> (try (exfalso; omega)))) <;> (try (refine wS ?_)))))
            all_goals exact kround_i (R.length - (k + 1)) (by omega) ⟨k + 1, b, rfl, by omega, by omega, by omega, hb0, by exact byS, by exact byQ, by exact byS, by exact byQ, by exact byS, by (rw [n1.out]; exact byS), by (rw [n2.out]; exact byS), by exact byS⟩
          · have hm' : 1000000000000 < x.pr + x.it := by omega
            have aP := Pay_big (loanAt t R k) (h.ok hs) (on := x.day) hm' (by omega)
            clear n1 n2 e0 h2 hmem hs h
            (repeat' (first | exact trivial | refine stq ?_ | (refine awp_ret ?_; simp only [then_ret, block_ret, end_ret]) | ((first | refine stn ?_ | refine nqif_ways (fun h => ?_) ?_ | ((first | refine gif_ways (fun h => ?_) (fun h => ?_) | refine cif_ways (fun h => ?_) (fun h => ?_)) <;> (try simp only [sxn] at h) <;> (try (exfalso; omega)))) <;> (try (refine wS ?_)))))
            refine vdraws (by kernel_rfl) ?_
            (refine wS ?_)
            (repeat' (first | exact trivial | refine stq ?_ | (refine awp_ret ?_; simp only [then_ret, block_ret, end_ret]) | ((first | refine stn ?_ | refine nqif_ways (fun h => ?_) ?_ | ((first | refine gif_ways (fun h => ?_) (fun h => ?_) | refine cif_ways (fun h => ?_) (fun h => ?_)) <;> (try simp only [sxn] at h) <;> (try (exfalso; omega)))) <;> (try (refine wS ?_)))))
            refine vdraws (by kernel_rfl) ?_
            (refine wS ?_)
            (repeat' (first | exact trivial | refine stq ?_ | (refine awp_ret ?_; simp only [then_ret, block_ret, end_ret]) | ((first | refine stn ?_ | refine nqif_ways (fun h => ?_) ?_ | ((first | refine gif_ways (fun h => ?_) (fun h => ?_) | refine cif_ways (fun h => ?_) (fun h => ?_)) <;> (try simp only [sxn] at h) <;> (try (exfalso; omega)))) <;> (try (refine wS ?_)))))
            refine (?_ : awp Tryz.prog CtxP (.region 17 top17_ops true) _ _)
            refine top17 base (b := b) (l := loanAt t R k) (l2 := zeroLn) (R := R) (x := x) (k := k) (n := x.pr + x.it) (g := 1) (ps := .sl []) (by exact byQ) (by exact byQ) (by exact byQ) (by exact byQ) gb0.out (by omega) q4 q1 hlt aP ?_
            clear aP gb0
            intro tm2 c2 c5 c7 c9 c10 c11 c12 c13 c14 c15
            replace c2 : tm2 2 = .pt 0 0 0 := c2.trans (by exact byQ)
            replace c9 : tm2 9 = .ex (.int .i64 (sumPr (R.take k))) := c9.trans (by exact byQ)
            replace c10 : tm2 10 = .ex (.int .i64 (sumIt (R.take k))) := c10.trans (by exact byQ)
            clear g2 g5 g7 g9 g10 g11
            show awp Tryz.prog CtxP _ _ _
            (repeat' (first | exact trivial | refine stq ?_ | (refine awp_ret ?_; simp only [then_ret, block_ret, end_ret]) | ((first | refine cv (hA) ?_ | refine stp ?_ | refine nqif_ways (fun h => ?_) ?_ | ((first | refine gif_ways (fun h => ?_) (fun h => ?_) | refine cif_ways (fun h => ?_) (fun h => ?_)) <;> (try simp only [sxn] at h) <;> (try (exfalso; omega)))) <;> (try (refine wS ?_)))))
            all_goals simp only [sxd, z0, p0, Nat.reduceEqDiff, ↓reduceIte, Tryz.f3, *]
      · have hlt1 : ¬ (k : Int) + 1 < R.length := by omega
        have h2 : ∀ z, R[k + 1]? = some z → z.day ≠ x.day := fun z hz' => absurd (List.getElem?_eq_some_iff.1 hz').1 hk1
        rcases Int.lt_or_le 1000000000000 (x.pr + x.it) with hm | hm
        rotate_left
        · have hm' : ¬ 1000000000000 < x.pr + x.it := by omega
          obtain ⟨ps, aP, pl, pb, k5, k4, k3⟩ := Pay_life h e0 hs hz hm h2
          have aK5 := kind_con ps 5 pl pb
          have aK4 := kind_con ps 4 pl pb
          have aK3 := kind_con ps 3 pl pb
          have aY := ADays_con (loanAt t R (k + 1)) x.day h.d x5 x6
          rw [k5] at aK5
          rw [k4] at aK4
          rw [k3] at aK3
          rw [show daysF x.day (loanAt t R (k + 1)).pp (loanAt t R (k + 1)).pit 0 0 (loanAt t R (k + 1)).dues = 0 from life_days h.d.s e0 h2] at aY
          have v1 : sumPr (R.take k) + x.pr ≤ 1000000000000000 := by omega
          have v2 : sumIt (R.take k) + x.it ≤ 1000000000000000 := by omega
          replace n1 := Lib.hid n1
          replace n2 := Lib.hid n2
          clear u3 u4 e0 h2 k5 k4 k3 pl pb hmem hs h
          (repeat' (first | exact trivial | refine stq ?_ | (refine awp_ret ?_; simp only [then_ret, block_ret, end_ret]) | ((first | refine stn ?_ | refine nqif_ways (fun h => ?_) ?_ | ((first | refine gif_ways (fun h => ?_) (fun h => ?_) | refine cif_ways (fun h => ?_) (fun h => ?_)) <;> (try simp only [sxn] at h) <;> (try (exfalso; omega)))) <;> (try (refine wS ?_)))))
          refine vdraws (by kernel_rfl) ?_
          (refine wS ?_)
          (repeat' (first | exact trivial | refine stq ?_ | (refine awp_ret ?_; simp only [then_ret, block_ret, end_ret]) | ((first | refine stn ?_ | refine nqif_ways (fun h => ?_) ?_ | ((first | refine gif_ways (fun h => ?_) (fun h => ?_) | refine cif_ways (fun h => ?_) (fun h => ?_)) <;> (try simp only [sxn] at h) <;> (try (exfalso; omega)))) <;> (try (refine wS ?_)))))
          refine vdraws (by kernel_rfl) ?_
          (refine wS ?_)
          (repeat' (first | exact trivial | refine stq ?_ | (refine awp_ret ?_; simp only [then_ret, block_ret, end_ret]) | ((first | refine stn ?_ | refine nqif_ways (fun h => ?_) ?_ | ((first | refine gif_ways (fun h => ?_) (fun h => ?_) | refine cif_ways (fun h => ?_) (fun h => ?_)) <;> (try simp only [sxn] at h) <;> (try (exfalso; omega)))) <;> (try (refine wS ?_)))))
          refine (?_ : awp Tryz.prog CtxP (.region 17 top17_ops true) _ _)
          refine top17 base (b := b) (l := loanAt t R k) (l2 := loanAt t R (k + 1)) (R := R) (x := x) (k := k) (n := x.pr + x.it) (g := 0) (ps := .sl (partsC ps)) (by exact byQ) (by exact byQ) (by exact byQ) (by exact byQ) gb0.out (by omega) q4 q1 hlt aP ?_
          clear aP gb0
          intro tm2 c2 c5 c7 c9 c10 c11 c12 c13 c14 c15
          replace c2 : tm2 2 = .pt 0 0 0 := c2.trans (by exact byQ)
          replace c9 : tm2 9 = .ex (.int .i64 (sumPr (R.take k))) := c9.trans (by exact byQ)
          replace c10 : tm2 10 = .ex (.int .i64 (sumIt (R.take k))) := c10.trans (by exact byQ)
          clear g2 g5 g7 g9 g10 g11
          show awp Tryz.prog CtxP _ _ _
          (repeat' (first | exact trivial | refine stq ?_ | (refine awp_ret ?_; simp only [then_ret, block_ret, end_ret]) | ((first | refine cv (aK5) ?_ | refine cv (aK4) ?_ | refine cv (aK3) ?_ | refine cv (aY) ?_ | refine stp ?_ | refine nqif_ways (fun h => ?_) ?_ | ((first | refine gif_ways (fun h => ?_) (fun h => ?_) | refine cif_ways (fun h => ?_) (fun h => ?_)) <;> (try simp only [sxn] at h) <;> (try (exfalso; omega)))) <;> (try (refine wS ?_)))))
          all_goals exact kround_i (R.length - (k + 1)) (by omega) ⟨k + 1, b, rfl, by omega, by omega, by omega, hb0, by exact byS, by exact byQ, by exact byS, by exact byQ, by exact byS, by (rw [n1.out]; exact byS), by (rw [n2.out]; exact byS), by exact byS⟩
        · have hm' : 1000000000000 < x.pr + x.it := by omega
          have aP := Pay_big (loanAt t R k) (h.ok hs) (on := x.day) hm' (by omega)
          clear n1 n2 e0 h2 hmem hs h
          (repeat' (first | exact trivial | refine stq ?_ | (refine awp_ret ?_; simp only [then_ret, block_ret, end_ret]) | ((first | refine stn ?_ | refine nqif_ways (fun h => ?_) ?_ | ((first | refine gif_ways (fun h => ?_) (fun h => ?_) | refine cif_ways (fun h => ?_) (fun h => ?_)) <;> (try simp only [sxn] at h) <;> (try (exfalso; omega)))) <;> (try (refine wS ?_)))))
          refine vdraws (by kernel_rfl) ?_
          (refine wS ?_)
          (repeat' (first | exact trivial | refine stq ?_ | (refine awp_ret ?_; simp only [then_ret, block_ret, end_ret]) | ((first | refine stn ?_ | refine nqif_ways (fun h => ?_) ?_ | ((first | refine gif_ways (fun h => ?_) (fun h => ?_) | refine cif_ways (fun h => ?_) (fun h => ?_)) <;> (try simp only [sxn] at h) <;> (try (exfalso; omega)))) <;> (try (refine wS ?_)))))
          refine vdraws (by kernel_rfl) ?_
          (refine wS ?_)
          (repeat' (first | exact trivial | refine stq ?_ | (refine awp_ret ?_; simp only [then_ret, block_ret, end_ret]) | ((first | refine stn ?_ | refine nqif_ways (fun h => ?_) ?_ | ((first | refine gif_ways (fun h => ?_) (fun h => ?_) | refine cif_ways (fun h => ?_) (fun h => ?_)) <;> (try simp only [sxn] at h) <;> (try (exfalso; omega)))) <;> (try (refine wS ?_)))))
          refine (?_ : awp Tryz.prog CtxP (.region 17 top17_ops true) _ _)
          refine top17 base (b := b) (l := loanAt t R k) (l2 := zeroLn) (R := R) (x := x) (k := k) (n := x.pr + x.it) (g := 1) (ps := .sl []) (by exact byQ) (by exact byQ) (by exact byQ) (by exact byQ) gb0.out (by omega) q4 q1 hlt aP ?_
          clear aP gb0
          intro tm2 c2 c5 c7 c9 c10 c11 c12 c13 c14 c15
          replace c2 : tm2 2 = .pt 0 0 0 := c2.trans (by exact byQ)
          replace c9 : tm2 9 = .ex (.int .i64 (sumPr (R.take k))) := c9.trans (by exact byQ)
          replace c10 : tm2 10 = .ex (.int .i64 (sumIt (R.take k))) := c10.trans (by exact byQ)
          clear g2 g5 g7 g9 g10 g11
          show awp Tryz.prog CtxP _ _ _
          (repeat' (first | exact trivial | refine stq ?_ | (refine awp_ret ?_; simp only [then_ret, block_ret, end_ret]) | ((first | refine cv (hA) ?_ | refine stp ?_ | refine nqif_ways (fun h => ?_) ?_ | ((first | refine gif_ways (fun h => ?_) (fun h => ?_) | refine cif_ways (fun h => ?_) (fun h => ?_)) <;> (try simp only [sxn] at h) <;> (try (exfalso; omega)))) <;> (try (refine wS ?_)))))
          all_goals simp only [sxd, z0, p0, Nat.reduceEqDiff, ↓reduceIte, Tryz.f3, *]
  · have hkl : k = R.length := by omega
    subst hkl
    rw [List.take_length] at g9 g10 gb
    rw [hE] at gb
    have hlt' : ¬ (R.length : Int) < R.length := by omega
    (repeat' (first | exact trivial | refine stq ?_ | (refine awp_ret ?_; simp only [then_ret, block_ret, end_ret]) | ((first | refine cv (aT) ?_ | refine cv (aO) ?_ | refine cv (hA) ?_ | refine stp ?_ | refine nqif_ways (fun h => ?_) ?_ | ((first | refine gif_ways (fun h => ?_) (fun h => ?_) | refine cif_ways (fun h => ?_) (fun h => ?_)) <;> (try simp only [sxn] at h) <;> (try (exfalso; omega)))) <;> (try (refine wS ?_)))))
    all_goals simp only [sxd, z0, p0, Nat.reduceEqDiff, ↓reduceIte, Tryz.f3, *]
end Go.Proofs.YtcoflmckbcnlpaaGreatDoor
namespace Go.Proofs.YtcoflmckbcnlpaaGreatDoor
open Go.RowKit
set_option maxRecDepth 100000
set_option linter.unusedSimpArgs false
theorem Top_con {t : TermV} {c : CalV} (hA : Con Tryz.prog CtxP 5 [] (.val (.ex (.bool true)))) (h1 : t.cur.size ≤ 9223372036854775807) (hs : c.name.size ≤ 9223372036854775807) (hw : c.we.length ≤ 9223372036854775807) (hh : c.ho.length ≤ 9223372036854775807) :
    Con Tryz.prog CtxP 3 [.agg [.ex (.int .i64 t.method), .ex (.int .i64 t.prin), .ex (.int .i64 t.ppm), .ex (.int .i64 t.start), .ex (.int .i64 t.every), .ex (.int .i64 t.count), .ex (.int .i64 t.bal), .ex (.int .i64 t.mode), .ex (.int .i64 t.pen), .ex (.int .i64 t.fee), .ex (.string t.cal), .ex (.string t.cur)], .agg [.ex (.string c.name), .sl (intsC c.we), .sl (intsC c.ho)]] (.val (.ex (.bool true))) := by
  have a1 := easy_con t c h1 hs hw hh
  cases hE : easyB t c with
  | false =>
    rw [hE] at a1
    exact Top_hard hA a1
  | true =>
    rw [hE] at a1
    have g := easy_good hE h1 hs
    obtain ⟨R, E, aB, ⟨rfl, d, hp, h40⟩ | ⟨hne, rfl⟩⟩ := Sch_ex g
    · obtain ⟨g1, g2, g3, g4, g5⟩ := g.pos
      obtain ⟨⟨p1, p2⟩, ⟨p3, p4⟩, p5, p6, p7, p8, ⟨p9, p10⟩, p11, p12⟩ := g.n1
      have r1 := outB_in p6
      have r2 := outB_in p7
      exact Top_loop hA a1 aB ⟨d, hp, p3, ⟨g4, g5⟩, ⟨by omega, by omega⟩, ⟨by omega, by omega⟩⟩ h40
    · exact Top_err hA a1 aB hne
end Go.Proofs.YtcoflmckbcnlpaaGreatDoor