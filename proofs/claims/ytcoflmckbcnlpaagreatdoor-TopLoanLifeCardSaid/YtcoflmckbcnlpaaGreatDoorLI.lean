/-
  Payments of a loan that are just what is owed, one part alone: walked. Conditions: those that each theorem states. More of the kind.
-/
import Derived.Test.YtcoflmckbcnlpaaGreatDoorLH
import Derived.Test.YtcoflmckbcnlpaaGreatDoorL27
import Derived.Test.YtcoflmckbcnlpaaGreatDoorGT
import Derived.Test.YtcoflmckbcnlpaaGreatDoorLF
namespace Go.Proofs.YtcoflmckbcnlpaaGreatDoor
open Go.RowKit
set_option maxRecDepth 100000
set_option linter.unusedSimpArgs false
set_option maxHeartbeats 4000000 in
theorem Pay_int (l : LoanV) (h : LoanOk l) {n on : Int} (hq : 0 < n) (n2 : n ≤ 1000000000000) (o0 : 0 ≤ on) (o1 : on ≤ 73048)
    (aO : Con Tryz.prog CtxP 24 [.agg [.ex (.int .i64 l.id), .ex (.int .i64 l.acc), .ex (.int .i64 l.st), .ex (.int .i64 l.pp), .ex (.int .i64 l.pit), .ex (.int .i64 l.fee), .ex (.int .i64 l.pen), .ex (.int .i64 l.chg), .ex (.int .i64 l.prov), .ex (.int .i64 l.loss), .ex (.int .i64 l.recd), .ex (.int .i64 l.t.method), .ex (.int .i64 l.t.prin), .ex (.int .i64 l.t.ppm), .ex (.int .i64 l.t.start), .ex (.int .i64 l.t.every), .ex (.int .i64 l.t.count), .ex (.int .i64 l.t.bal), .ex (.int .i64 l.t.mode), .ex (.int .i64 l.t.pen), .ex (.int .i64 l.t.fee), .ex (.string l.t.cal), .ex (.string l.t.cur), .sl (duesC l.dues), .sl []], .ex (.int .i64 on)] (.val (.sl (partsC [(3, n)])))) (b1 : l.pp ≤ 1000000000000000) (b2 : l.pit ≤ 1000000000000000)
    {B : Bool} {s : Int} (aL : Con Tryz.prog CtxP 27 [.agg [.ex (.int .i64 (({ l with pit := l.pit + n })).id), .ex (.int .i64 (({ l with pit := l.pit + n })).acc), .ex (.int .i64 (({ l with pit := l.pit + n })).st), .ex (.int .i64 (({ l with pit := l.pit + n })).pp), .ex (.int .i64 (({ l with pit := l.pit + n })).pit), .ex (.int .i64 (({ l with pit := l.pit + n })).fee), .ex (.int .i64 (({ l with pit := l.pit + n })).pen), .ex (.int .i64 (({ l with pit := l.pit + n })).chg), .ex (.int .i64 (({ l with pit := l.pit + n })).prov), .ex (.int .i64 (({ l with pit := l.pit + n })).loss), .ex (.int .i64 (({ l with pit := l.pit + n })).recd), .ex (.int .i64 (({ l with pit := l.pit + n })).t.method), .ex (.int .i64 (({ l with pit := l.pit + n })).t.prin), .ex (.int .i64 (({ l with pit := l.pit + n })).t.ppm), .ex (.int .i64 (({ l with pit := l.pit + n })).t.start), .ex (.int .i64 (({ l with pit := l.pit + n })).t.every), .ex (.int .i64 (({ l with pit := l.pit + n })).t.count), .ex (.int .i64 (({ l with pit := l.pit + n })).t.bal), .ex (.int .i64 (({ l with pit := l.pit + n })).t.mode), .ex (.int .i64 (({ l with pit := l.pit + n })).t.pen), .ex (.int .i64 (({ l with pit := l.pit + n })).t.fee), .ex (.string (({ l with pit := l.pit + n })).t.cal), .ex (.string (({ l with pit := l.pit + n })).t.cur), .sl (duesC (({ l with pit := l.pit + n })).dues), .sl []]] (.val (.ex (.bool B)))) (hs : (B = true ∧ s = 1) ∨ (B = false ∧ s = 2)) :
    Con Tryz.prog CtxP 8 [.agg [.ex (.int .i64 l.id), .ex (.int .i64 l.acc), .ex (.int .i64 l.st), .ex (.int .i64 l.pp), .ex (.int .i64 l.pit), .ex (.int .i64 l.fee), .ex (.int .i64 l.pen), .ex (.int .i64 l.chg), .ex (.int .i64 l.prov), .ex (.int .i64 l.loss), .ex (.int .i64 l.recd), .ex (.int .i64 l.t.method), .ex (.int .i64 l.t.prin), .ex (.int .i64 l.t.ppm), .ex (.int .i64 l.t.start), .ex (.int .i64 l.t.every), .ex (.int .i64 l.t.count), .ex (.int .i64 l.t.bal), .ex (.int .i64 l.t.mode), .ex (.int .i64 l.t.pen), .ex (.int .i64 l.t.fee), .ex (.string l.t.cal), .ex (.string l.t.cur), .sl (duesC l.dues), .sl []], .ex (.int .i64 n), .ex (.int .i64 on)] (.val (.tup [.agg [.ex (.int .i64 (({ l with st := s, pit := l.pit + n })).id), .ex (.int .i64 (({ l with st := s, pit := l.pit + n })).acc), .ex (.int .i64 (({ l with st := s, pit := l.pit + n })).st), .ex (.int .i64 (({ l with st := s, pit := l.pit + n })).pp), .ex (.int .i64 (({ l with st := s, pit := l.pit + n })).pit), .ex (.int .i64 (({ l with st := s, pit := l.pit + n })).fee), .ex (.int .i64 (({ l with st := s, pit := l.pit + n })).pen), .ex (.int .i64 (({ l with st := s, pit := l.pit + n })).chg), .ex (.int .i64 (({ l with st := s, pit := l.pit + n })).prov), .ex (.int .i64 (({ l with st := s, pit := l.pit + n })).loss), .ex (.int .i64 (({ l with st := s, pit := l.pit + n })).recd), .ex (.int .i64 (({ l with st := s, pit := l.pit + n })).t.method), .ex (.int .i64 (({ l with st := s, pit := l.pit + n })).t.prin), .ex (.int .i64 (({ l with st := s, pit := l.pit + n })).t.ppm), .ex (.int .i64 (({ l with st := s, pit := l.pit + n })).t.start), .ex (.int .i64 (({ l with st := s, pit := l.pit + n })).t.every), .ex (.int .i64 (({ l with st := s, pit := l.pit + n })).t.count), .ex (.int .i64 (({ l with st := s, pit := l.pit + n })).t.bal), .ex (.int .i64 (({ l with st := s, pit := l.pit + n })).t.mode), .ex (.int .i64 (({ l with st := s, pit := l.pit + n })).t.pen), .ex (.int .i64 (({ l with st := s, pit := l.pit + n })).t.fee), .ex (.string (({ l with st := s, pit := l.pit + n })).t.cal), .ex (.string (({ l with st := s, pit := l.pit + n })).t.cur), .sl (duesC (({ l with st := s, pit := l.pit + n })).dues), .sl []], .sl (partsC [(3, n)]), .ex (.int .i64 0)])) := by
  have a1 := LCheck_con l h
  have a2 := lday_con on
  rw [outB_no o0 o1] at a2
  have aF := fun x y => first_con x y (3, n) [] (by simp)
  have a5 := CloneD_con l.dues (by have := h.d.len; omega)
  have a6 := CloneC_con
  have f3 := h.st
  have c1 := h.pp0
  have c2 := h.pi0
  have f1 := dues_p0 l.dues
  have f2 := dues_z0 l.dues
  have hn1 : ¬ n < 1 := by omega
  have hn2 : ¬ 1000000000000 < n := by omega
  have hn3 : n ≤ 1000000000000000 := by omega
  clear h
  (refine con_val base Tryz.func8 rfl rfl (by kernel_rfl) (Nat.le_of_ble_eq_true rfl) ?_; rw [init_eq])
  (repeat' (first | exact trivial | refine stq ?_ | (refine awp_ret ?_; simp only [then_ret, block_ret, end_ret]) | ((first | refine cv (a1) ?_ | refine cv (a2) ?_ | refine cv (aO) ?_ | refine cv (aF _ _) ?_ | refine stn ?_ | refine nqif_ways (fun h => ?_) ?_ | ((first | refine gif_ways (fun h => ?_) (fun h => ?_) | refine cif_ways (fun h => ?_) (fun h => ?_)) <;> (try simp only [sxn] at h) <;> (try (exfalso; omega)))) <;> (try (refine wS ?_)))))
  refine (?_ : awp Tryz.prog CtxP (.region 13 pay13_ops true) _ _)
  refine reg13_new (b3 := 0) (b9 := 28) (l := l) (left := n) (n := n) (k := 0) (owed := [(3, n)]) (by exact byQ) (by exact byQ) (by exact byQ) (by exact byQ) (by omega) (by omega) (by decide) rfl rfl (by simp) hq (Int.le_refl n) hn3 c2 b2 ?_
  intro tm H N r e3 e9 e6 k1 k2 k3 k4 k5 k6
  rw [Int.sub_self] at k4
  dsimp only at k3 aL ⊢
  have z1 : H 1 = some ⟨32, [[.ex (.int .i64 0), .ex (.int .i64 0), .ex (.int .i64 0), .ex (.int .i64 0), .ex (.int .i64 0), .ex (.int .i64 0), .ex (.int .i64 0), .ex (.int .i64 0), .ex (.int .i64 0), .ex (.int .i64 0), .ex (.int .i64 0), .ex (.int .i64 0), .ex (.int .i64 0), .ex (.int .i64 0), .ex (.int .i64 0), .ex (.int .i64 0), .ex (.int .i64 0), .ex (.int .i64 0), .ex (.int .i64 0), .ex (.int .i64 0), .ex (.int .i64 0), .ex (.string ⟨#[]⟩), .ex (.string ⟨#[]⟩), .ex (.slice none 0 0), .ex (.slice none 0 0)]], true⟩ := (k6 1 (by omega) (by decide) (by decide)).trans (by exact byQ)
  clear k6
  show awp Tryz.prog CtxP _ _ _
  (repeat' (first | exact trivial | refine stq ?_ | (refine awp_ret ?_; simp only [then_ret, block_ret, end_ret]) | ((first | refine stn ?_ | refine nqif_ways (fun h => ?_) ?_ | ((first | refine gif_ways (fun h => ?_) (fun h => ?_) | refine cif_ways (fun h => ?_) (fun h => ?_)) <;> (try simp only [sxn] at h) <;> (try (exfalso; omega)))) <;> (try (refine wS ?_)))))
  refine (?_ : awp Tryz.prog CtxP (.region 14 pay14_ops true) _ _)
  replace k5 : H r = some ⟨64, [[.ex (.int .i64 3), .ex (.int .i64 n)]], true⟩ := k5
  refine reg14_none (n := 0) (k := 0) (b3 := 0) (b9 := 28) (l := { l with pit := l.pit + n }) (left := 0) (owed := [(3, n)]) (y := .own r) (by exact byQ) (by exact byQ) k3 k4 (by omega) (by omega) (by decide) rfl (by simp) c1 b1 ?_
  intro tm2 H2 N2 d3 d9 d6 j1 j3 j6
  rw [e6] at d6
  replace z1 := (j6 1 (by omega) (by decide)).trans z1
  have j4 := (j6 28 (by omega) (by decide)).trans k4
  have j5 := (j6 r (by omega) (by omega)).trans k5
  clear j6 k3 k4 k5 e3 e9 e6
  simp only [Int.add_zero] at j3
  have hr1 : ¬ r = 1 := by omega
  have hr0 : ¬ r = 0 := by omega
  have hr28 : ¬ r = 28 := by omega
  show awp Tryz.prog CtxP _ _ _
  rcases hs with ⟨rfl, rfl⟩ | ⟨rfl, rfl⟩
  · (repeat' (first | exact trivial | refine stq ?_ | (refine awp_ret ?_; simp only [then_ret, block_ret, end_ret]) | ((first | refine cv (aL) ?_ | refine stn ?_ | refine nqif_ways (fun h => ?_) ?_ | ((first | refine gif_ways (fun h => ?_) (fun h => ?_) | refine cif_ways (fun h => ?_) (fun h => ?_)) <;> (try simp only [sxn] at h) <;> (try (exfalso; omega)))) <;> (try (refine wS ?_)))))
    refine vdraws (by kernel_rfl) ?_
    (refine wS ?_)
    (repeat' (first | exact trivial | refine stq ?_ | (refine awp_ret ?_; simp only [then_ret, block_ret, end_ret]) | ((first | refine cf (a5) ?_ | refine cf (a6) ?_ | refine stn ?_ | refine nqif_ways (fun h => ?_) ?_ | ((first | refine gif_ways (fun h => ?_) (fun h => ?_) | refine cif_ways (fun h => ?_) (fun h => ?_)) <;> (try simp only [sxn] at h) <;> (try (exfalso; omega)))) <;> (try (refine wS ?_)))))
    refine (?_ : awp Tryz.prog CtxP (.region 20 pay20_ops true) _ _)
    refine pay20 base (b3 := 0) (b9 := 28) (b6 := 1) (l := { l with st := 1, pit := l.pit + n }) (by exact byQ) (by exact byQ) (by exact byQ) (by exact byQ) (by exact byQ) (by exact byQ) (by decide) (by decide) ?_
    intro tm3 i6 i7 i8
    show awp Tryz.prog CtxP _ _ _
    (repeat' (first | exact trivial | refine stq ?_ | (refine awp_ret ?_; simp only [then_ret, block_ret, end_ret]) | ((first | refine stp ?_ | refine nqif_ways (fun h => ?_) ?_ | ((first | refine gif_ways (fun h => ?_) (fun h => ?_) | refine cif_ways (fun h => ?_) (fun h => ?_)) <;> (try simp only [sxn] at h) <;> (try (exfalso; omega)))) <;> (try (refine wS ?_)))))
    all_goals (refine rc4 rfl ?_)
    all_goals rfl
  · (repeat' (first | exact trivial | refine stq ?_ | (refine awp_ret ?_; simp only [then_ret, block_ret, end_ret]) | ((first | refine cv (aL) ?_ | refine stn ?_ | refine nqif_ways (fun h => ?_) ?_ | ((first | refine gif_ways (fun h => ?_) (fun h => ?_) | refine cif_ways (fun h => ?_) (fun h => ?_)) <;> (try simp only [sxn] at h) <;> (try (exfalso; omega)))) <;> (try (refine wS ?_)))))
    refine vdraws (by kernel_rfl) ?_
    (refine wS ?_)
    (repeat' (first | exact trivial | refine stq ?_ | (refine awp_ret ?_; simp only [then_ret, block_ret, end_ret]) | ((first | refine cf (a5) ?_ | refine cf (a6) ?_ | refine stn ?_ | refine nqif_ways (fun h => ?_) ?_ | ((first | refine gif_ways (fun h => ?_) (fun h => ?_) | refine cif_ways (fun h => ?_) (fun h => ?_)) <;> (try simp only [sxn] at h) <;> (try (exfalso; omega)))) <;> (try (refine wS ?_)))))
    refine (?_ : awp Tryz.prog CtxP (.region 20 pay20_ops true) _ _)
    refine pay20 base (b3 := 0) (b9 := 28) (b6 := 1) (l := { l with st := 2, pit := l.pit + n }) (by exact byQ) (by exact byQ) (by exact byQ) (by exact byQ) (by exact byQ) (by exact byQ) (by decide) (by decide) ?_
    intro tm3 i6 i7 i8
    show awp Tryz.prog CtxP _ _ _
    (repeat' (first | exact trivial | refine stq ?_ | (refine awp_ret ?_; simp only [then_ret, block_ret, end_ret]) | ((first | refine stp ?_ | refine nqif_ways (fun h => ?_) ?_ | ((first | refine gif_ways (fun h => ?_) (fun h => ?_) | refine cif_ways (fun h => ?_) (fun h => ?_)) <;> (try simp only [sxn] at h) <;> (try (exfalso; omega)))) <;> (try (refine wS ?_)))))
    all_goals (refine rc4 rfl ?_)
    all_goals rfl
set_option maxHeartbeats 4000000 in
theorem Pay_pri (l : LoanV) (h : LoanOk l) {n on : Int} (hq : 0 < n) (n2 : n ≤ 1000000000000) (o0 : 0 ≤ on) (o1 : on ≤ 73048)
    (aO : Con Tryz.prog CtxP 24 [.agg [.ex (.int .i64 l.id), .ex (.int .i64 l.acc), .ex (.int .i64 l.st), .ex (.int .i64 l.pp), .ex (.int .i64 l.pit), .ex (.int .i64 l.fee), .ex (.int .i64 l.pen), .ex (.int .i64 l.chg), .ex (.int .i64 l.prov), .ex (.int .i64 l.loss), .ex (.int .i64 l.recd), .ex (.int .i64 l.t.method), .ex (.int .i64 l.t.prin), .ex (.int .i64 l.t.ppm), .ex (.int .i64 l.t.start), .ex (.int .i64 l.t.every), .ex (.int .i64 l.t.count), .ex (.int .i64 l.t.bal), .ex (.int .i64 l.t.mode), .ex (.int .i64 l.t.pen), .ex (.int .i64 l.t.fee), .ex (.string l.t.cal), .ex (.string l.t.cur), .sl (duesC l.dues), .sl []], .ex (.int .i64 on)] (.val (.sl (partsC [(4, n)])))) (b1 : l.pp ≤ 1000000000000000) (b2 : l.pit ≤ 1000000000000000)
    {B : Bool} {s : Int} (aL : Con Tryz.prog CtxP 27 [.agg [.ex (.int .i64 (({ l with pp := l.pp + n })).id), .ex (.int .i64 (({ l with pp := l.pp + n })).acc), .ex (.int .i64 (({ l with pp := l.pp + n })).st), .ex (.int .i64 (({ l with pp := l.pp + n })).pp), .ex (.int .i64 (({ l with pp := l.pp + n })).pit), .ex (.int .i64 (({ l with pp := l.pp + n })).fee), .ex (.int .i64 (({ l with pp := l.pp + n })).pen), .ex (.int .i64 (({ l with pp := l.pp + n })).chg), .ex (.int .i64 (({ l with pp := l.pp + n })).prov), .ex (.int .i64 (({ l with pp := l.pp + n })).loss), .ex (.int .i64 (({ l with pp := l.pp + n })).recd), .ex (.int .i64 (({ l with pp := l.pp + n })).t.method), .ex (.int .i64 (({ l with pp := l.pp + n })).t.prin), .ex (.int .i64 (({ l with pp := l.pp + n })).t.ppm), .ex (.int .i64 (({ l with pp := l.pp + n })).t.start), .ex (.int .i64 (({ l with pp := l.pp + n })).t.every), .ex (.int .i64 (({ l with pp := l.pp + n })).t.count), .ex (.int .i64 (({ l with pp := l.pp + n })).t.bal), .ex (.int .i64 (({ l with pp := l.pp + n })).t.mode), .ex (.int .i64 (({ l with pp := l.pp + n })).t.pen), .ex (.int .i64 (({ l with pp := l.pp + n })).t.fee), .ex (.string (({ l with pp := l.pp + n })).t.cal), .ex (.string (({ l with pp := l.pp + n })).t.cur), .sl (duesC (({ l with pp := l.pp + n })).dues), .sl []]] (.val (.ex (.bool B)))) (hs : (B = true ∧ s = 1) ∨ (B = false ∧ s = 2)) :
    Con Tryz.prog CtxP 8 [.agg [.ex (.int .i64 l.id), .ex (.int .i64 l.acc), .ex (.int .i64 l.st), .ex (.int .i64 l.pp), .ex (.int .i64 l.pit), .ex (.int .i64 l.fee), .ex (.int .i64 l.pen), .ex (.int .i64 l.chg), .ex (.int .i64 l.prov), .ex (.int .i64 l.loss), .ex (.int .i64 l.recd), .ex (.int .i64 l.t.method), .ex (.int .i64 l.t.prin), .ex (.int .i64 l.t.ppm), .ex (.int .i64 l.t.start), .ex (.int .i64 l.t.every), .ex (.int .i64 l.t.count), .ex (.int .i64 l.t.bal), .ex (.int .i64 l.t.mode), .ex (.int .i64 l.t.pen), .ex (.int .i64 l.t.fee), .ex (.string l.t.cal), .ex (.string l.t.cur), .sl (duesC l.dues), .sl []], .ex (.int .i64 n), .ex (.int .i64 on)] (.val (.tup [.agg [.ex (.int .i64 (({ l with st := s, pp := l.pp + n })).id), .ex (.int .i64 (({ l with st := s, pp := l.pp + n })).acc), .ex (.int .i64 (({ l with st := s, pp := l.pp + n })).st), .ex (.int .i64 (({ l with st := s, pp := l.pp + n })).pp), .ex (.int .i64 (({ l with st := s, pp := l.pp + n })).pit), .ex (.int .i64 (({ l with st := s, pp := l.pp + n })).fee), .ex (.int .i64 (({ l with st := s, pp := l.pp + n })).pen), .ex (.int .i64 (({ l with st := s, pp := l.pp + n })).chg), .ex (.int .i64 (({ l with st := s, pp := l.pp + n })).prov), .ex (.int .i64 (({ l with st := s, pp := l.pp + n })).loss), .ex (.int .i64 (({ l with st := s, pp := l.pp + n })).recd), .ex (.int .i64 (({ l with st := s, pp := l.pp + n })).t.method), .ex (.int .i64 (({ l with st := s, pp := l.pp + n })).t.prin), .ex (.int .i64 (({ l with st := s, pp := l.pp + n })).t.ppm), .ex (.int .i64 (({ l with st := s, pp := l.pp + n })).t.start), .ex (.int .i64 (({ l with st := s, pp := l.pp + n })).t.every), .ex (.int .i64 (({ l with st := s, pp := l.pp + n })).t.count), .ex (.int .i64 (({ l with st := s, pp := l.pp + n })).t.bal), .ex (.int .i64 (({ l with st := s, pp := l.pp + n })).t.mode), .ex (.int .i64 (({ l with st := s, pp := l.pp + n })).t.pen), .ex (.int .i64 (({ l with st := s, pp := l.pp + n })).t.fee), .ex (.string (({ l with st := s, pp := l.pp + n })).t.cal), .ex (.string (({ l with st := s, pp := l.pp + n })).t.cur), .sl (duesC (({ l with st := s, pp := l.pp + n })).dues), .sl []], .sl (partsC [(4, n)]), .ex (.int .i64 0)])) := by
  have a1 := LCheck_con l h
  have a2 := lday_con on
  rw [outB_no o0 o1] at a2
  have aF := fun x y => first_con x y (4, n) [] (by simp)
  have a5 := CloneD_con l.dues (by have := h.d.len; omega)
  have a6 := CloneC_con
  have f3 := h.st
  have c1 := h.pp0
  have c2 := h.pi0
  have f1 := dues_p0 l.dues
  have f2 := dues_z0 l.dues
  have hn1 : ¬ n < 1 := by omega
  have hn2 : ¬ 1000000000000 < n := by omega
  have hn3 : n ≤ 1000000000000000 := by omega
  clear h
  (refine con_val base Tryz.func8 rfl rfl (by kernel_rfl) (Nat.le_of_ble_eq_true rfl) ?_; rw [init_eq])
  (repeat' (first | exact trivial | refine stq ?_ | (refine awp_ret ?_; simp only [then_ret, block_ret, end_ret]) | ((first | refine cv (a1) ?_ | refine cv (a2) ?_ | refine cv (aO) ?_ | refine cv (aF _ _) ?_ | refine stn ?_ | refine nqif_ways (fun h => ?_) ?_ | ((first | refine gif_ways (fun h => ?_) (fun h => ?_) | refine cif_ways (fun h => ?_) (fun h => ?_)) <;> (try simp only [sxn] at h) <;> (try (exfalso; omega)))) <;> (try (refine wS ?_)))))
  refine (?_ : awp Tryz.prog CtxP (.region 14 pay14_ops true) _ _)
  refine reg14_new (b3 := 0) (b9 := 28) (l := l) (left := n) (n := n) (k := 0) (owed := [(4, n)]) (by exact byQ) (by exact byQ) (by exact byQ) (by exact byQ) (by omega) (by omega) (by decide) rfl rfl (by simp) hq (Int.le_refl n) hn3 c1 b1 ?_
  intro tm2 H2 N2 r d3 d9 d6 j1 j2 j3 j4 j5 k6
  rw [Int.sub_self] at j4
  dsimp only at j3 aL ⊢
  have z1 : H2 1 = some ⟨32, [[.ex (.int .i64 0), .ex (.int .i64 0), .ex (.int .i64 0), .ex (.int .i64 0), .ex (.int .i64 0), .ex (.int .i64 0), .ex (.int .i64 0), .ex (.int .i64 0), .ex (.int .i64 0), .ex (.int .i64 0), .ex (.int .i64 0), .ex (.int .i64 0), .ex (.int .i64 0), .ex (.int .i64 0), .ex (.int .i64 0), .ex (.int .i64 0), .ex (.int .i64 0), .ex (.int .i64 0), .ex (.int .i64 0), .ex (.int .i64 0), .ex (.int .i64 0), .ex (.string ⟨#[]⟩), .ex (.string ⟨#[]⟩), .ex (.slice none 0 0), .ex (.slice none 0 0)]], true⟩ := (k6 1 (by omega) (by decide) (by decide)).trans (by exact byQ)
  clear k6
  replace j5 : H2 r = some ⟨64, [[.ex (.int .i64 4), .ex (.int .i64 n)]], true⟩ := j5
  have d6' : tm2 6 = .pt 1 0 0 := by rw [d6]; exact byQ
  clear d6
  have hr1 : ¬ r = 1 := by omega
  have hr0 : ¬ r = 0 := by omega
  have hr28 : ¬ r = 28 := by omega
  show awp Tryz.prog CtxP _ _ _
  rcases hs with ⟨rfl, rfl⟩ | ⟨rfl, rfl⟩
  · (repeat' (first | exact trivial | refine stq ?_ | (refine awp_ret ?_; simp only [then_ret, block_ret, end_ret]) | ((first | refine cv (aL) ?_ | refine stn ?_ | refine nqif_ways (fun h => ?_) ?_ | ((first | refine gif_ways (fun h => ?_) (fun h => ?_) | refine cif_ways (fun h => ?_) (fun h => ?_)) <;> (try simp only [sxn] at h) <;> (try (exfalso; omega)))) <;> (try (refine wS ?_)))))
    refine vdraws (by kernel_rfl) ?_
    (refine wS ?_)
    (repeat' (first | exact trivial | refine stq ?_ | (refine awp_ret ?_; simp only [then_ret, block_ret, end_ret]) | ((first | refine cf (a5) ?_ | refine cf (a6) ?_ | refine stn ?_ | refine nqif_ways (fun h => ?_) ?_ | ((first | refine gif_ways (fun h => ?_) (fun h => ?_) | refine cif_ways (fun h => ?_) (fun h => ?_)) <;> (try simp only [sxn] at h) <;> (try (exfalso; omega)))) <;> (try (refine wS ?_)))))
    refine (?_ : awp Tryz.prog CtxP (.region 20 pay20_ops true) _ _)
    refine pay20 base (b3 := 0) (b9 := 28) (b6 := 1) (l := { l with st := 1, pp := l.pp + n }) (by exact byQ) (by exact byQ) (by exact byQ) (by exact byQ) (by exact byQ) (by exact byQ) (by decide) (by decide) ?_
    intro tm3 i6 i7 i8
    show awp Tryz.prog CtxP _ _ _
    (repeat' (first | exact trivial | refine stq ?_ | (refine awp_ret ?_; simp only [then_ret, block_ret, end_ret]) | ((first | refine stp ?_ | refine nqif_ways (fun h => ?_) ?_ | ((first | refine gif_ways (fun h => ?_) (fun h => ?_) | refine cif_ways (fun h => ?_) (fun h => ?_)) <;> (try simp only [sxn] at h) <;> (try (exfalso; omega)))) <;> (try (refine wS ?_)))))
    all_goals (refine rc4 rfl ?_)
    all_goals rfl
  · (repeat' (first | exact trivial | refine stq ?_ | (refine awp_ret ?_; simp only [then_ret, block_ret, end_ret]) | ((first | refine cv (aL) ?_ | refine stn ?_ | refine nqif_ways (fun h => ?_) ?_ | ((first | refine gif_ways (fun h => ?_) (fun h => ?_) | refine cif_ways (fun h => ?_) (fun h => ?_)) <;> (try simp only [sxn] at h) <;> (try (exfalso; omega)))) <;> (try (refine wS ?_)))))
    refine vdraws (by kernel_rfl) ?_
    (refine wS ?_)
    (repeat' (first | exact trivial | refine stq ?_ | (refine awp_ret ?_; simp only [then_ret, block_ret, end_ret]) | ((first | refine cf (a5) ?_ | refine cf (a6) ?_ | refine stn ?_ | refine nqif_ways (fun h => ?_) ?_ | ((first | refine gif_ways (fun h => ?_) (fun h => ?_) | refine cif_ways (fun h => ?_) (fun h => ?_)) <;> (try simp only [sxn] at h) <;> (try (exfalso; omega)))) <;> (try (refine wS ?_)))))
    refine (?_ : awp Tryz.prog CtxP (.region 20 pay20_ops true) _ _)
    refine pay20 base (b3 := 0) (b9 := 28) (b6 := 1) (l := { l with st := 2, pp := l.pp + n }) (by exact byQ) (by exact byQ) (by exact byQ) (by exact byQ) (by exact byQ) (by exact byQ) (by decide) (by decide) ?_
    intro tm3 i6 i7 i8
    show awp Tryz.prog CtxP _ _ _
    (repeat' (first | exact trivial | refine stq ?_ | (refine awp_ret ?_; simp only [then_ret, block_ret, end_ret]) | ((first | refine stp ?_ | refine nqif_ways (fun h => ?_) ?_ | ((first | refine gif_ways (fun h => ?_) (fun h => ?_) | refine cif_ways (fun h => ?_) (fun h => ?_)) <;> (try simp only [sxn] at h) <;> (try (exfalso; omega)))) <;> (try (refine wS ?_)))))
    all_goals (refine rc4 rfl ?_)
    all_goals rfl
end Go.Proofs.YtcoflmckbcnlpaaGreatDoor
namespace Go.Proofs.YtcoflmckbcnlpaaGreatDoor
open Go.RowKit
set_option maxRecDepth 100000
set_option linter.unusedSimpArgs false
def loanAt (t : TermV) (R : List DueV) (k : Nat) : LoanV := ⟨7, 1000, stAt R k, sumPr (R.take k), sumIt (R.take k), 0, 0, t.start, 0, 0, 0, t, R⟩
structure Life (t : TermV) (R : List DueV) : Prop where
  d : Duly R
  prin : sumPr R = t.prin
  p1 : 1 ≤ t.prin
  st : 0 ≤ t.start ∧ t.start ≤ 73048
  r1 : 0 ≤ t.pen ∧ t.pen ≤ 1000000
  r2 : 0 ≤ t.fee ∧ t.fee ≤ 1000000
theorem Life.ok {t : TermV} {R : List DueV} (h : Life t R) {k : Nat} (hs : stAt R k = 1) : LoanOk (loanAt t R k) where
  id := by show (1 : Int) ≤ 7; decide
  acc := by show (1000 : Int) ≤ 1000; decide
  st := hs
  pp0 := sumPr_nonneg fun x hx => h.d.s.p x (List.mem_of_mem_take hx)
  pp1 := sumPr_le h.d.s.p k
  pi0 := sumIt_nonneg fun x hx => h.d.s.i x (List.mem_of_mem_take hx)
  pi1 := sumIt_le h.d.s.i k
  fee := rfl
  pen := rfl
  chg := h.st
  prov := rfl
  loss := rfl
  recd := rfl
  r1 := h.r1
  r2 := h.r2
  d := h.d
  prin := h.prin
  left := st_active hs
theorem life_left {t : TermV} {R : List DueV} (h : Life t R) (k : Nat) : ∃ B : Bool, Con Tryz.prog CtxP 27 [.agg [.ex (.int .i64 ((⟨7, 1000, 1, sumPr (R.take k), sumIt (R.take k), 0, 0, t.start, 0, 0, 0, t, R⟩ : LoanV)).id), .ex (.int .i64 ((⟨7, 1000, 1, sumPr (R.take k), sumIt (R.take k), 0, 0, t.start, 0, 0, 0, t, R⟩ : LoanV)).acc), .ex (.int .i64 ((⟨7, 1000, 1, sumPr (R.take k), sumIt (R.take k), 0, 0, t.start, 0, 0, 0, t, R⟩ : LoanV)).st), .ex (.int .i64 ((⟨7, 1000, 1, sumPr (R.take k), sumIt (R.take k), 0, 0, t.start, 0, 0, 0, t, R⟩ : LoanV)).pp), .ex (.int .i64 ((⟨7, 1000, 1, sumPr (R.take k), sumIt (R.take k), 0, 0, t.start, 0, 0, 0, t, R⟩ : LoanV)).pit), .ex (.int .i64 ((⟨7, 1000, 1, sumPr (R.take k), sumIt (R.take k), 0, 0, t.start, 0, 0, 0, t, R⟩ : LoanV)).fee), .ex (.int .i64 ((⟨7, 1000, 1, sumPr (R.take k), sumIt (R.take k), 0, 0, t.start, 0, 0, 0, t, R⟩ : LoanV)).pen), .ex (.int .i64 ((⟨7, 1000, 1, sumPr (R.take k), sumIt (R.take k), 0, 0, t.start, 0, 0, 0, t, R⟩ : LoanV)).chg), .ex (.int .i64 ((⟨7, 1000, 1, sumPr (R.take k), sumIt (R.take k), 0, 0, t.start, 0, 0, 0, t, R⟩ : LoanV)).prov), .ex (.int .i64 ((⟨7, 1000, 1, sumPr (R.take k), sumIt (R.take k), 0, 0, t.start, 0, 0, 0, t, R⟩ : LoanV)).loss), .ex (.int .i64 ((⟨7, 1000, 1, sumPr (R.take k), sumIt (R.take k), 0, 0, t.start, 0, 0, 0, t, R⟩ : LoanV)).recd), .ex (.int .i64 ((⟨7, 1000, 1, sumPr (R.take k), sumIt (R.take k), 0, 0, t.start, 0, 0, 0, t, R⟩ : LoanV)).t.method), .ex (.int .i64 ((⟨7, 1000, 1, sumPr (R.take k), sumIt (R.take k), 0, 0, t.start, 0, 0, 0, t, R⟩ : LoanV)).t.prin), .ex (.int .i64 ((⟨7, 1000, 1, sumPr (R.take k), sumIt (R.take k), 0, 0, t.start, 0, 0, 0, t, R⟩ : LoanV)).t.ppm), .ex (.int .i64 ((⟨7, 1000, 1, sumPr (R.take k), sumIt (R.take k), 0, 0, t.start, 0, 0, 0, t, R⟩ : LoanV)).t.start), .ex (.int .i64 ((⟨7, 1000, 1, sumPr (R.take k), sumIt (R.take k), 0, 0, t.start, 0, 0, 0, t, R⟩ : LoanV)).t.every), .ex (.int .i64 ((⟨7, 1000, 1, sumPr (R.take k), sumIt (R.take k), 0, 0, t.start, 0, 0, 0, t, R⟩ : LoanV)).t.count), .ex (.int .i64 ((⟨7, 1000, 1, sumPr (R.take k), sumIt (R.take k), 0, 0, t.start, 0, 0, 0, t, R⟩ : LoanV)).t.bal), .ex (.int .i64 ((⟨7, 1000, 1, sumPr (R.take k), sumIt (R.take k), 0, 0, t.start, 0, 0, 0, t, R⟩ : LoanV)).t.mode), .ex (.int .i64 ((⟨7, 1000, 1, sumPr (R.take k), sumIt (R.take k), 0, 0, t.start, 0, 0, 0, t, R⟩ : LoanV)).t.pen), .ex (.int .i64 ((⟨7, 1000, 1, sumPr (R.take k), sumIt (R.take k), 0, 0, t.start, 0, 0, 0, t, R⟩ : LoanV)).t.fee), .ex (.string ((⟨7, 1000, 1, sumPr (R.take k), sumIt (R.take k), 0, 0, t.start, 0, 0, 0, t, R⟩ : LoanV)).t.cal), .ex (.string ((⟨7, 1000, 1, sumPr (R.take k), sumIt (R.take k), 0, 0, t.start, 0, 0, 0, t, R⟩ : LoanV)).t.cur), .sl (duesC ((⟨7, 1000, 1, sumPr (R.take k), sumIt (R.take k), 0, 0, t.start, 0, 0, 0, t, R⟩ : LoanV)).dues), .sl []]] (.val (.ex (.bool B))) ∧ ((B = true ∧ stAt R k = 1) ∨ (B = false ∧ stAt R k = 2)) := by
  refine ⟨_, left_con ⟨7, 1000, 1, sumPr (R.take k), sumIt (R.take k), 0, 0, t.start, 0, 0, 0, t, R⟩ h.d rfl rfl, ?_⟩
  show ((!(decide (sumPr (R.take k) = sumPr R) && decide (sumIt (R.take k) = sumIt R))) = true ∧ _) ∨ _
  unfold stAt
  by_cases hc : sumPr (R.take k) = sumPr R ∧ sumIt (R.take k) = sumIt R
  · refine .inr ⟨?_, if_pos hc⟩
    show (!(decide (sumPr (R.take k) = sumPr R) && decide (sumIt (R.take k) = sumIt R))) = false
    rw [decide_eq_true hc.1, decide_eq_true hc.2]; rfl
  · refine .inl ⟨?_, if_neg hc⟩
    rw [Bool.not_eq_true', Bool.and_eq_false_iff, decide_eq_false_iff_not, decide_eq_false_iff_not]
    omega
theorem Pay_life {t : TermV} {R : List DueV} (h : Life t R) {k : Nat} {x : DueV} (e : R[k]? = some x) (hs : stAt R k = 1) (hx : x.pr + x.it ≠ 0) (hm : x.pr + x.it ≤ 1000000000000) (h2 : ∀ y, R[k + 1]? = some y → y.day ≠ x.day) :
    ∃ ps : List (Int × Int), Con Tryz.prog CtxP 8 [.agg [.ex (.int .i64 ((loanAt t R k)).id), .ex (.int .i64 ((loanAt t R k)).acc), .ex (.int .i64 ((loanAt t R k)).st), .ex (.int .i64 ((loanAt t R k)).pp), .ex (.int .i64 ((loanAt t R k)).pit), .ex (.int .i64 ((loanAt t R k)).fee), .ex (.int .i64 ((loanAt t R k)).pen), .ex (.int .i64 ((loanAt t R k)).chg), .ex (.int .i64 ((loanAt t R k)).prov), .ex (.int .i64 ((loanAt t R k)).loss), .ex (.int .i64 ((loanAt t R k)).recd), .ex (.int .i64 ((loanAt t R k)).t.method), .ex (.int .i64 ((loanAt t R k)).t.prin), .ex (.int .i64 ((loanAt t R k)).t.ppm), .ex (.int .i64 ((loanAt t R k)).t.start), .ex (.int .i64 ((loanAt t R k)).t.every), .ex (.int .i64 ((loanAt t R k)).t.count), .ex (.int .i64 ((loanAt t R k)).t.bal), .ex (.int .i64 ((loanAt t R k)).t.mode), .ex (.int .i64 ((loanAt t R k)).t.pen), .ex (.int .i64 ((loanAt t R k)).t.fee), .ex (.string ((loanAt t R k)).t.cal), .ex (.string ((loanAt t R k)).t.cur), .sl (duesC ((loanAt t R k)).dues), .sl []], .ex (.int .i64 (x.pr + x.it)), .ex (.int .i64 x.day)] (.val (.tup [.agg [.ex (.int .i64 ((loanAt t R (k + 1))).id), .ex (.int .i64 ((loanAt t R (k + 1))).acc), .ex (.int .i64 ((loanAt t R (k + 1))).st), .ex (.int .i64 ((loanAt t R (k + 1))).pp), .ex (.int .i64 ((loanAt t R (k + 1))).pit), .ex (.int .i64 ((loanAt t R (k + 1))).fee), .ex (.int .i64 ((loanAt t R (k + 1))).pen), .ex (.int .i64 ((loanAt t R (k + 1))).chg), .ex (.int .i64 ((loanAt t R (k + 1))).prov), .ex (.int .i64 ((loanAt t R (k + 1))).loss), .ex (.int .i64 ((loanAt t R (k + 1))).recd), .ex (.int .i64 ((loanAt t R (k + 1))).t.method), .ex (.int .i64 ((loanAt t R (k + 1))).t.prin), .ex (.int .i64 ((loanAt t R (k + 1))).t.ppm), .ex (.int .i64 ((loanAt t R (k + 1))).t.start), .ex (.int .i64 ((loanAt t R (k + 1))).t.every), .ex (.int .i64 ((loanAt t R (k + 1))).t.count), .ex (.int .i64 ((loanAt t R (k + 1))).t.bal), .ex (.int .i64 ((loanAt t R (k + 1))).t.mode), .ex (.int .i64 ((loanAt t R (k + 1))).t.pen), .ex (.int .i64 ((loanAt t R (k + 1))).t.fee), .ex (.string ((loanAt t R (k + 1))).t.cal), .ex (.string ((loanAt t R (k + 1))).t.cur), .sl (duesC ((loanAt t R (k + 1))).dues), .sl []], .sl (partsC ps), .ex (.int .i64 0)])) ∧
      ps.length ≤ 10 ∧ (∀ p ∈ ps, 0 ≤ p.2 ∧ p.2 ≤ 1000000000000) ∧ kindL ps 5 = 0 ∧ kindL ps 4 = x.pr ∧ kindL ps 3 = x.it := by
  have hok := h.ok hs
  have hmem := List.mem_iff_getElem?.2 ⟨k, e⟩
  obtain ⟨x1, x2, x3, x4, x5, x6⟩ := h.d.s.pos x hmem
  obtain ⟨d1, d2⟩ := life_due h.d.s e h2
  have hlen := h.d.len
  have hk : k < R.length := (List.getElem?_eq_some_iff.1 e).1
  have a1 := due_con R x.day (by omega) (i0 := k + 1) (fun j y hj hy => decide_eq_false (d1 j y hj hy)) (fun j y hj hy => decide_eq_true (d2 j y hj hy)) (by omega)
  have a2 := sums_con (R.take (k + 1)) (by rw [List.length_take]; omega) fun y hy => h.d.d4 y (List.mem_of_mem_take hy)
  have e1 := sumPr_next e
  have e2 := sumIt_next e
  have tp := sum_top h.d
  have u1 := hok.pp1
  have u2 := hok.pi1
  change sumPr (R.take k) ≤ sumPr R at u1
  change sumIt (R.take k) ≤ sumIt R at u2
  obtain ⟨B, aL, hB⟩ := life_left h (k + 1)
  rw [e1, e2] at aL
  have key : (⟨7, 1000, stAt R (k + 1), sumPr (R.take k) + x.pr, sumIt (R.take k) + x.it, 0, 0, t.start, 0, 0, 0, t, R⟩ : LoanV) = loanAt t R (k + 1) := by
    unfold loanAt
    rw [e1, e2]
  have core := fun (es : List (List Value)) (rest : List AV) hz hdel => Owed_core (loanAt t R k) (on := x.day) (P := sumPr (R.take (k + 1))) (I := sumIt (R.take (k + 1))) (q := x.it) (p := x.pr) (D := R.take (k + 1)) a1 a2 rfl rfl (by show sumPr (R.take (k + 1)) - sumPr (R.take k) = x.pr; omega) (by show sumIt (R.take (k + 1)) - sumIt (R.take k) = x.it; omega) x3 (by omega) x1 (by omega) (es := es) (rest := rest) hz hdel
  rcases Int.lt_or_le 0 x.it with hq | hq
  · rcases Int.lt_or_le 0 x.pr with hp | hp
    · have aO := core [[.int .i64 3, .int .i64 x.it], [.int .i64 4, .int .i64 x.pr]] [.ex (.int .i64 0), .ex (.int .i64 0), .ex (.int .i64 0), .ex (.int .i64 0)] (by intro y hy; simp only [List.mem_cons, List.not_mem_nil, or_false] at hy; rcases hy with rfl | rfl <;> rfl) fun hp' nx b hb hn => DelP_inl hb hn hq hp
      refine ⟨[(3, x.it), (4, x.pr)], ?_, by simp, ?_, by simp [kindL], by simp [kindL], by simp [kindL]⟩
      · rw [← key]
        exact Pay_two (loanAt t R k) hok hq hp (by omega) hm x5 x6 aO (by show sumPr (R.take k) ≤ _; omega) (by show sumIt (R.take k) ≤ _; omega) (B := B) (by rw [← hs] at aL; exact aL) hB
      · intro p hp'
        simp only [List.mem_cons, List.not_mem_nil, or_false] at hp'
        rcases hp' with rfl | rfl
        · exact ⟨x3, x4⟩
        · exact ⟨x1, x2⟩
    · have hz : x.pr = 0 := by omega
      rw [hz] at core key aL
      rw [Int.add_zero] at key aL
      have aO := core [[.int .i64 3, .int .i64 x.it]] [.ex (.int .i64 0), .ex (.int .i64 0), .ex (.int .i64 0), .ex (.int .i64 0), .ex (.int .i64 0), .ex (.int .i64 0)] (by intro y hy; simp only [List.mem_cons, List.not_mem_nil, or_false] at hy; subst hy; rfl) fun hp' nx b hb hn => DelX_inl hb hn hq
      have hn : x.pr + x.it = x.it := by omega
      refine ⟨[(3, x.it)], ?_, by simp, ?_, by simp [kindL], by rw [hz]; simp [kindL], by simp [kindL]⟩
      · rw [← key, hn]
        exact Pay_int (loanAt t R k) hok hq (by omega) x5 x6 aO (by show sumPr (R.take k) ≤ _; omega) (by show sumIt (R.take k) ≤ _; omega) (B := B) (by rw [← hs] at aL; exact aL) hB
      · intro p hp'
        simp only [List.mem_cons, List.not_mem_nil, or_false] at hp'
        subst hp'
        exact ⟨x3, x4⟩
  · have hz : x.it = 0 := by omega
    have hp : 0 < x.pr := by omega
    rw [hz] at core key aL
    rw [Int.add_zero] at key aL
    have aO := core [[.int .i64 4, .int .i64 x.pr]] [.ex (.int .i64 0), .ex (.int .i64 0), .ex (.int .i64 0), .ex (.int .i64 0), .ex (.int .i64 0), .ex (.int .i64 0)] (by intro y hy; simp only [List.mem_cons, List.not_mem_nil, or_false] at hy; subst hy; rfl) fun hp' nx b hb hn => DelY_inl hb hn hp
    have hn : x.pr + x.it = x.pr := by omega
    refine ⟨[(4, x.pr)], ?_, by simp, ?_, by simp [kindL], by simp [kindL], by rw [hz]; simp [kindL]⟩
    · rw [← key, hn]
      exact Pay_pri (loanAt t R k) hok hp (by omega) x5 x6 aO (by show sumPr (R.take k) ≤ _; omega) (by show sumIt (R.take k) ≤ _; omega) (B := B) (by rw [← hs] at aL; exact aL) hB
    · intro p hp'
      simp only [List.mem_cons, List.not_mem_nil, or_false] at hp'
      subst hp'
      exact ⟨x1, x2⟩
end Go.Proofs.YtcoflmckbcnlpaaGreatDoor
namespace Go.Proofs.YtcoflmckbcnlpaaGreatDoor
open Go.RowKit
set_option maxRecDepth 100000
set_option linter.unusedSimpArgs false
theorem loan_start {t : TermV} {R : List DueV} (h : Life t R) : (⟨7, 1000, 1, 0, 0, 0, 0, t.start, 0, 0, 0, t, R⟩ : LoanV) = loanAt t R 0 := by
  unfold loanAt
  rw [st_start (by rw [h.prin]; exact h.p1)]
  rfl
theorem Top_hard {t : TermV} {c : CalV} (hA : Con Tryz.prog CtxP 5 [] (.val (.ex (.bool true)))) (a1 : Con Tryz.prog CtxP 4 [.agg [.ex (.int .i64 t.method), .ex (.int .i64 t.prin), .ex (.int .i64 t.ppm), .ex (.int .i64 t.start), .ex (.int .i64 t.every), .ex (.int .i64 t.count), .ex (.int .i64 t.bal), .ex (.int .i64 t.mode), .ex (.int .i64 t.pen), .ex (.int .i64 t.fee), .ex (.string t.cal), .ex (.string t.cur)], .agg [.ex (.string c.name), .sl (intsC c.we), .sl (intsC c.ho)]] (.val (.ex (.bool false)))) :
    Con Tryz.prog CtxP 3 [.agg [.ex (.int .i64 t.method), .ex (.int .i64 t.prin), .ex (.int .i64 t.ppm), .ex (.int .i64 t.start), .ex (.int .i64 t.every), .ex (.int .i64 t.count), .ex (.int .i64 t.bal), .ex (.int .i64 t.mode), .ex (.int .i64 t.pen), .ex (.int .i64 t.fee), .ex (.string t.cal), .ex (.string t.cur)], .agg [.ex (.string c.name), .sl (intsC c.we), .sl (intsC c.ho)]] (.val (.ex (.bool true))) := by
  (refine con_val base Tryz.func3 rfl rfl (by kernel_rfl) (Nat.le_of_ble_eq_true rfl) ?_; rw [init_eq])
  (repeat' (first | exact trivial | refine stq ?_ | (refine awp_ret ?_; simp only [then_ret, block_ret, end_ret]) | ((first | refine cv (a1) ?_ | refine cv (hA) ?_ | refine stp ?_ | refine nqif_ways (fun h => ?_) ?_ | ((first | refine gif_ways (fun h => ?_) (fun h => ?_) | refine cif_ways (fun h => ?_) (fun h => ?_)) <;> (try simp only [sxn] at h) <;> (try (exfalso; omega)))) <;> (try (refine wS ?_)))))
  all_goals simp only [sxd, z0, p0, Nat.reduceEqDiff, ↓reduceIte, Tryz.f3, *]
theorem Top_err {t : TermV} {c : CalV} (hA : Con Tryz.prog CtxP 5 [] (.val (.ex (.bool true)))) (a1 : Con Tryz.prog CtxP 4 [.agg [.ex (.int .i64 t.method), .ex (.int .i64 t.prin), .ex (.int .i64 t.ppm), .ex (.int .i64 t.start), .ex (.int .i64 t.every), .ex (.int .i64 t.count), .ex (.int .i64 t.bal), .ex (.int .i64 t.mode), .ex (.int .i64 t.pen), .ex (.int .i64 t.fee), .ex (.string t.cal), .ex (.string t.cur)], .agg [.ex (.string c.name), .sl (intsC c.we), .sl (intsC c.ho)]] (.val (.ex (.bool true))))
    {R : List DueV} {E : Int} (aB : Con Tryz.prog CtxP 7 [.agg [.ex (.int .i64 t.method), .ex (.int .i64 t.prin), .ex (.int .i64 t.ppm), .ex (.int .i64 t.start), .ex (.int .i64 t.every), .ex (.int .i64 t.count), .ex (.int .i64 t.bal), .ex (.int .i64 t.mode), .ex (.int .i64 t.pen), .ex (.int .i64 t.fee), .ex (.string t.cal), .ex (.string t.cur)], .agg [.ex (.string c.name), .sl (intsC c.we), .sl (intsC c.ho)]] (.val (.tup [.sl (duesC R), .ex (.int .i64 E)]))) (hE : E ≠ 0) :
    Con Tryz.prog CtxP 3 [.agg [.ex (.int .i64 t.method), .ex (.int .i64 t.prin), .ex (.int .i64 t.ppm), .ex (.int .i64 t.start), .ex (.int .i64 t.every), .ex (.int .i64 t.count), .ex (.int .i64 t.bal), .ex (.int .i64 t.mode), .ex (.int .i64 t.pen), .ex (.int .i64 t.fee), .ex (.string t.cal), .ex (.string t.cur)], .agg [.ex (.string c.name), .sl (intsC c.we), .sl (intsC c.ho)]] (.val (.ex (.bool true))) := by
  have aD := Disburse_con aB (.inr ⟨hE, rfl⟩)
  (refine con_val base Tryz.func3 rfl rfl (by kernel_rfl) (Nat.le_of_ble_eq_true rfl) ?_; rw [init_eq])
  (repeat' (first | exact trivial | refine stq ?_ | (refine awp_ret ?_; simp only [then_ret, block_ret, end_ret]) | ((first | refine cv (a1) ?_ | refine cv (hA) ?_ | refine cv (aD) ?_ | refine cv (aB) ?_ | refine stp ?_ | refine nqif_ways (fun h => ?_) ?_ | ((first | refine gif_ways (fun h => ?_) (fun h => ?_) | refine cif_ways (fun h => ?_) (fun h => ?_)) <;> (try simp only [sxn] at h) <;> (try (exfalso; omega)))) <;> (try (refine wS ?_)))))
  all_goals simp only [sxd, z0, p0, Nat.reduceEqDiff, ↓reduceIte, Tryz.f3, *]
end Go.Proofs.YtcoflmckbcnlpaaGreatDoor