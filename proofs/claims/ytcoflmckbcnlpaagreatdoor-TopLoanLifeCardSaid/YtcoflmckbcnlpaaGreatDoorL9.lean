/-
  The document's examination of terms; what 'easy' asks. Conditions: strings fit in memory.
-/
import Derived.Test.YtcoflmckbcnlpaaGreatDoorLB
namespace Go.Proofs.YtcoflmckbcnlpaaGreatDoor
open Go.RowKit
set_option maxRecDepth 100000
set_option linter.unusedSimpArgs false
structure TermV where
  method : Int
  prin : Int
  ppm : Int
  start : Int
  every : Int
  count : Int
  bal : Int
  mode : Int
  pen : Int
  fee : Int
  cal : ByteArray
  cur : ByteArray
def Nums1 (t : TermV) : Prop := (1 ≤ t.method ∧ t.method ≤ 4) ∧ (1 ≤ t.prin ∧ t.prin ≤ 1000000000000) ∧ outB 0 1000000 t.ppm = false ∧ outB 0 1000000 t.pen = false ∧ outB 0 1000000 t.fee = false ∧ dayB t.start = true ∧ (1 ≤ t.every ∧ t.every ≤ 12) ∧ (1 ≤ t.count ∧ t.count ≤ 120)
def Nums2 (t : TermV) : Prop := (0 ≤ t.bal ∧ t.bal < t.prin) ∧ (t.method = 4 ∨ t.bal = 0) ∧ outB 1 6 t.mode = false
instance (t : TermV) : Decidable (Nums1 t) := by unfold Nums1; infer_instance
instance (t : TermV) : Decidable (Nums2 t) := by unfold Nums2; infer_instance
noncomputable def chk33 (t : TermV) (c : CalV) : Int := if Nums1 t then (if Nums2 t then (if codeB t.cur.data.toList = true then (if calE c = 0 then (if t.cal = c.name then 0 else 11) else calE c) else 14) else 1) else 1
set_option maxHeartbeats 4000000 in
theorem chk33_con (t : TermV) (c : CalV) (h1 : t.cur.size ≤ 9223372036854775807) (hs : c.name.size ≤ 9223372036854775807) (hw : c.we.length ≤ 1000000) (hh : c.ho.length ≤ 1000000) :
    Con Tryz.prog CtxP 13 [.agg [.ex (.int .i64 t.method), .ex (.int .i64 t.prin), .ex (.int .i64 t.ppm), .ex (.int .i64 t.start), .ex (.int .i64 t.every), .ex (.int .i64 t.count), .ex (.int .i64 t.bal), .ex (.int .i64 t.mode), .ex (.int .i64 t.pen), .ex (.int .i64 t.fee), .ex (.string t.cal), .ex (.string t.cur)], .agg [.ex (.string c.name), .sl (intsC c.we), .sl (intsC c.ho)]] (.val (.ex (.int .i64 (chk33 t c)))) := by
  have a1 := Rrate_con t.ppm
  have a2 := Rrate_con t.pen
  have a3 := Rrate_con t.fee
  have a4 := RdayValid_con t.start
  have a5 := Rmode_con t.mode
  have a6 := RCode_con t.cur h1
  have a7 := RcalCheck_con c hs hw hh
  have hr : chk33 t c = if Nums1 t then (if Nums2 t then (if codeB t.cur.data.toList = true then (if calE c = 0 then (if t.cal = c.name then 0 else 11) else calE c) else 14) else 1) else 1 := rfl
  generalize chk33 t c = E at *
  have n1 : Nums1 t ↔ (1 ≤ t.method ∧ t.method ≤ 4) ∧ (1 ≤ t.prin ∧ t.prin ≤ 1000000000000) ∧ outB 0 1000000 t.ppm = false ∧ outB 0 1000000 t.pen = false ∧ outB 0 1000000 t.fee = false ∧ dayB t.start = true ∧ (1 ≤ t.every ∧ t.every ≤ 12) ∧ (1 ≤ t.count ∧ t.count ≤ 120) := Iff.rfl
  have n2 : Nums2 t ↔ (0 ≤ t.bal ∧ t.bal < t.prin) ∧ (t.method = 4 ∨ t.bal = 0) ∧ outB 1 6 t.mode = false := Iff.rfl
  generalize calE c = ce at *
  generalize codeB t.cur.data.toList = cb at *
  generalize outB 0 1000000 t.ppm = o1 at *
  generalize outB 0 1000000 t.pen = o2 at *
  generalize outB 0 1000000 t.fee = o3 at *
  generalize outB 1 6 t.mode = o4 at *
  generalize dayB t.start = o5 at *
  by_cases m1 : Nums1 t
  · rw [if_pos m1] at hr
    obtain ⟨⟨p1, p2⟩, ⟨p3, p4⟩, p5, p6, p7, p8, ⟨p9, p10⟩, p11, p12⟩ := n1.1 m1
    subst p5 p6 p7 p8
    have f1 : ¬ t.method < 1 := by omega
    have f2 : ¬ 4 < t.method := by omega
    have f3 : ¬ t.prin < 1 := by omega
    have f4 : ¬ 1000000000000 < t.prin := by omega
    have f5 : ¬ t.every < 1 := by omega
    have f6 : ¬ 12 < t.every := by omega
    have f7 : ¬ t.count < 1 := by omega
    have f8 : ¬ 120 < t.count := by omega
    clear m1 n1 p1 p2 p3 p4 p9 p10 p11 p12
    by_cases m2 : Nums2 t
    · rw [if_pos m2] at hr
      obtain ⟨⟨p1, p2⟩, p3, p4⟩ := n2.1 m2
      subst p4
      have f9 : ¬ t.bal < 0 := by omega
      have f10 : ¬ t.prin ≤ t.bal := by omega
      clear m2 n2 p1 p2
      rcases p3 with p3 | p3
      · (refine con_val base Tryz.func13 rfl rfl (by kernel_rfl) (Nat.le_of_ble_eq_true rfl) ?_; rw [init_eq])
        cases cb with
        | false =>
          rw [if_neg (by simp)] at hr
          (repeat' (first | exact trivial | refine stq ?_ | (refine awp_ret ?_; simp only [then_ret, block_ret, end_ret]) | ((first | refine cv (a1) ?_ | refine cv (a2) ?_ | refine cv (a3) ?_ | refine cv (a4) ?_ | refine cv (a5) ?_ | refine cv (a6) ?_ | refine cv (a7) ?_ | refine stp ?_ | refine nqif_ways (fun h => ?_) ?_ | ((first | refine gif_ways (fun h => ?_) (fun h => ?_) | refine cif_ways (fun h => ?_) (fun h => ?_)) <;> (try simp only [sxn] at h) <;> (try (exfalso; omega)))) <;> (try (refine wS ?_)))))
          all_goals simp only [sxd, z0, p0, Nat.reduceEqDiff, ↓reduceIte, Tryz.f13, *]
        | true =>
          rw [if_pos rfl] at hr
          by_cases hc : ce = 0
          · subst hc
            rw [if_pos rfl] at hr
            by_cases he : t.cal = c.name
            · rw [if_pos he] at hr
              have he2 : decide (t.cal = c.name) = true := decide_eq_true he
              clear he
              (repeat' (first | exact trivial | refine stq ?_ | (refine awp_ret ?_; simp only [then_ret, block_ret, end_ret]) | ((first | refine cv (a1) ?_ | refine cv (a2) ?_ | refine cv (a3) ?_ | refine cv (a4) ?_ | refine cv (a5) ?_ | refine cv (a6) ?_ | refine cv (a7) ?_ | refine stp ?_ | refine nqif_ways (fun h => ?_) ?_ | ((first | refine gif_ways (fun h => ?_) (fun h => ?_) | refine cif_ways (fun h => ?_) (fun h => ?_)) <;> (try simp only [sxn] at h) <;> (try (exfalso; omega)))) <;> (try (refine wS ?_)))))
              all_goals simp only [sxd, z0, p0, Nat.reduceEqDiff, ↓reduceIte, Tryz.f13, *]
            · rw [if_neg he] at hr
              have he2 : decide (t.cal = c.name) = false := decide_eq_false he
              clear he
              (repeat' (first | exact trivial | refine stq ?_ | (refine awp_ret ?_; simp only [then_ret, block_ret, end_ret]) | ((first | refine cv (a1) ?_ | refine cv (a2) ?_ | refine cv (a3) ?_ | refine cv (a4) ?_ | refine cv (a5) ?_ | refine cv (a6) ?_ | refine cv (a7) ?_ | refine stp ?_ | refine nqif_ways (fun h => ?_) ?_ | ((first | refine gif_ways (fun h => ?_) (fun h => ?_) | refine cif_ways (fun h => ?_) (fun h => ?_)) <;> (try simp only [sxn] at h) <;> (try (exfalso; omega)))) <;> (try (refine wS ?_)))))
              all_goals simp only [sxd, z0, p0, Nat.reduceEqDiff, ↓reduceIte, Tryz.f13, *]
          · rw [if_neg hc] at hr
            (repeat' (first | exact trivial | refine stq ?_ | (refine awp_ret ?_; simp only [then_ret, block_ret, end_ret]) | ((first | refine cv (a1) ?_ | refine cv (a2) ?_ | refine cv (a3) ?_ | refine cv (a4) ?_ | refine cv (a5) ?_ | refine cv (a6) ?_ | refine cv (a7) ?_ | refine stp ?_ | refine nqif_ways (fun h => ?_) ?_ | ((first | refine gif_ways (fun h => ?_) (fun h => ?_) | refine cif_ways (fun h => ?_) (fun h => ?_)) <;> (try simp only [sxn] at h) <;> (try (exfalso; omega)))) <;> (try (refine wS ?_)))))
            all_goals simp only [sxd, z0, p0, Nat.reduceEqDiff, ↓reduceIte, Tryz.f13, *]
      · by_cases p5 : t.method = 4
        · (refine con_val base Tryz.func13 rfl rfl (by kernel_rfl) (Nat.le_of_ble_eq_true rfl) ?_; rw [init_eq])
          cases cb with
          | false =>
            rw [if_neg (by simp)] at hr
            (repeat' (first | exact trivial | refine stq ?_ | (refine awp_ret ?_; simp only [then_ret, block_ret, end_ret]) | ((first | refine cv (a1) ?_ | refine cv (a2) ?_ | refine cv (a3) ?_ | refine cv (a4) ?_ | refine cv (a5) ?_ | refine cv (a6) ?_ | refine cv (a7) ?_ | refine stp ?_ | refine nqif_ways (fun h => ?_) ?_ | ((first | refine gif_ways (fun h => ?_) (fun h => ?_) | refine cif_ways (fun h => ?_) (fun h => ?_)) <;> (try simp only [sxn] at h) <;> (try (exfalso; omega)))) <;> (try (refine wS ?_)))))
            all_goals simp only [sxd, z0, p0, Nat.reduceEqDiff, ↓reduceIte, Tryz.f13, *]
          | true =>
            rw [if_pos rfl] at hr
            by_cases hc : ce = 0
            · subst hc
              rw [if_pos rfl] at hr
              by_cases he : t.cal = c.name
              · rw [if_pos he] at hr
                have he2 : decide (t.cal = c.name) = true := decide_eq_true he
                clear he
                (repeat' (first | exact trivial | refine stq ?_ | (refine awp_ret ?_; simp only [then_ret, block_ret, end_ret]) | ((first | refine cv (a1) ?_ | refine cv (a2) ?_ | refine cv (a3) ?_ | refine cv (a4) ?_ | refine cv (a5) ?_ | refine cv (a6) ?_ | refine cv (a7) ?_ | refine stp ?_ | refine nqif_ways (fun h => ?_) ?_ | ((first | refine gif_ways (fun h => ?_) (fun h => ?_) | refine cif_ways (fun h => ?_) (fun h => ?_)) <;> (try simp only [sxn] at h) <;> (try (exfalso; omega)))) <;> (try (refine wS ?_)))))
                all_goals simp only [sxd, z0, p0, Nat.reduceEqDiff, ↓reduceIte, Tryz.f13, *]
              · rw [if_neg he] at hr
                have he2 : decide (t.cal = c.name) = false := decide_eq_false he
                clear he
                (repeat' (first | exact trivial | refine stq ?_ | (refine awp_ret ?_; simp only [then_ret, block_ret, end_ret]) | ((first | refine cv (a1) ?_ | refine cv (a2) ?_ | refine cv (a3) ?_ | refine cv (a4) ?_ | refine cv (a5) ?_ | refine cv (a6) ?_ | refine cv (a7) ?_ | refine stp ?_ | refine nqif_ways (fun h => ?_) ?_ | ((first | refine gif_ways (fun h => ?_) (fun h => ?_) | refine cif_ways (fun h => ?_) (fun h => ?_)) <;> (try simp only [sxn] at h) <;> (try (exfalso; omega)))) <;> (try (refine wS ?_)))))
                all_goals simp only [sxd, z0, p0, Nat.reduceEqDiff, ↓reduceIte, Tryz.f13, *]
            · rw [if_neg hc] at hr
              (repeat' (first | exact trivial | refine stq ?_ | (refine awp_ret ?_; simp only [then_ret, block_ret, end_ret]) | ((first | refine cv (a1) ?_ | refine cv (a2) ?_ | refine cv (a3) ?_ | refine cv (a4) ?_ | refine cv (a5) ?_ | refine cv (a6) ?_ | refine cv (a7) ?_ | refine stp ?_ | refine nqif_ways (fun h => ?_) ?_ | ((first | refine gif_ways (fun h => ?_) (fun h => ?_) | refine cif_ways (fun h => ?_) (fun h => ?_)) <;> (try simp only [sxn] at h) <;> (try (exfalso; omega)))) <;> (try (refine wS ?_)))))
              all_goals simp only [sxd, z0, p0, Nat.reduceEqDiff, ↓reduceIte, Tryz.f13, *]
        · (refine con_val base Tryz.func13 rfl rfl (by kernel_rfl) (Nat.le_of_ble_eq_true rfl) ?_; rw [init_eq])
          cases cb with
          | false =>
            rw [if_neg (by simp)] at hr
            (repeat' (first | exact trivial | refine stq ?_ | (refine awp_ret ?_; simp only [then_ret, block_ret, end_ret]) | ((first | refine cv (a1) ?_ | refine cv (a2) ?_ | refine cv (a3) ?_ | refine cv (a4) ?_ | refine cv (a5) ?_ | refine cv (a6) ?_ | refine cv (a7) ?_ | refine stp ?_ | refine nqif_ways (fun h => ?_) ?_ | ((first | refine gif_ways (fun h => ?_) (fun h => ?_) | refine cif_ways (fun h => ?_) (fun h => ?_)) <;> (try simp only [sxn] at h) <;> (try (exfalso; omega)))) <;> (try (refine wS ?_)))))
            all_goals simp only [sxd, z0, p0, Nat.reduceEqDiff, ↓reduceIte, Tryz.f13, *]
          | true =>
            rw [if_pos rfl] at hr
            by_cases hc : ce = 0
            · subst hc
              rw [if_pos rfl] at hr
              by_cases he : t.cal = c.name
              · rw [if_pos he] at hr
                have he2 : decide (t.cal = c.name) = true := decide_eq_true he
                clear he
                (repeat' (first | exact trivial | refine stq ?_ | (refine awp_ret ?_; simp only [then_ret, block_ret, end_ret]) | ((first | refine cv (a1) ?_ | refine cv (a2) ?_ | refine cv (a3) ?_ | refine cv (a4) ?_ | refine cv (a5) ?_ | refine cv (a6) ?_ | refine cv (a7) ?_ | refine stp ?_ | refine nqif_ways (fun h => ?_) ?_ | ((first | refine gif_ways (fun h => ?_) (fun h => ?_) | refine cif_ways (fun h => ?_) (fun h => ?_)) <;> (try simp only [sxn] at h) <;> (try (exfalso; omega)))) <;> (try (refine wS ?_)))))
                all_goals simp only [sxd, z0, p0, Nat.reduceEqDiff, ↓reduceIte, Tryz.f13, *]
              · rw [if_neg he] at hr
                have he2 : decide (t.cal = c.name) = false := decide_eq_false he
                clear he
                (repeat' (first | exact trivial | refine stq ?_ | (refine awp_ret ?_; simp only [then_ret, block_ret, end_ret]) | ((first | refine cv (a1) ?_ | refine cv (a2) ?_ | refine cv (a3) ?_ | refine cv (a4) ?_ | refine cv (a5) ?_ | refine cv (a6) ?_ | refine cv (a7) ?_ | refine stp ?_ | refine nqif_ways (fun h => ?_) ?_ | ((first | refine gif_ways (fun h => ?_) (fun h => ?_) | refine cif_ways (fun h => ?_) (fun h => ?_)) <;> (try simp only [sxn] at h) <;> (try (exfalso; omega)))) <;> (try (refine wS ?_)))))
                all_goals simp only [sxd, z0, p0, Nat.reduceEqDiff, ↓reduceIte, Tryz.f13, *]
            · rw [if_neg hc] at hr
              (repeat' (first | exact trivial | refine stq ?_ | (refine awp_ret ?_; simp only [then_ret, block_ret, end_ret]) | ((first | refine cv (a1) ?_ | refine cv (a2) ?_ | refine cv (a3) ?_ | refine cv (a4) ?_ | refine cv (a5) ?_ | refine cv (a6) ?_ | refine cv (a7) ?_ | refine stp ?_ | refine nqif_ways (fun h => ?_) ?_ | ((first | refine gif_ways (fun h => ?_) (fun h => ?_) | refine cif_ways (fun h => ?_) (fun h => ?_)) <;> (try simp only [sxn] at h) <;> (try (exfalso; omega)))) <;> (try (refine wS ?_)))))
              all_goals simp only [sxd, z0, p0, Nat.reduceEqDiff, ↓reduceIte, Tryz.f13, *]
    · rw [if_neg m2] at hr
      clear a6 a7
      rw [n2] at m2
      clear n2
      (refine con_val base Tryz.func13 rfl rfl (by kernel_rfl) (Nat.le_of_ble_eq_true rfl) ?_; rw [init_eq])
      (repeat' (first | exact trivial | refine stq ?_ | (refine awp_ret ?_; simp only [then_ret, block_ret, end_ret]) | ((first | refine cv (a1) ?_ | refine cv (a2) ?_ | refine cv (a3) ?_ | refine cv (a4) ?_ | refine cv (a5) ?_ | refine stp ?_ | refine nqif_ways (fun h => ?_) ?_ | ((first | refine gif_ways (fun h => ?_) (fun h => ?_) | refine cif_ways (fun h => ?_) (fun h => ?_)) <;> (try simp only [sxn] at h) <;> (try (exfalso; omega)))) <;> (try (refine wS ?_)))))
      all_goals (try simp only [sxd, z0, p0, Nat.reduceEqDiff, ↓reduceIte, Tryz.f13, hr])
      all_goals (exfalso; apply m2; clear a1 a2 a3 a4 a5; simp_all <;> omega)
  · rw [if_neg m1] at hr
    clear a5 a6 a7
    rw [n1] at m1
    clear n1 n2
    (refine con_val base Tryz.func13 rfl rfl (by kernel_rfl) (Nat.le_of_ble_eq_true rfl) ?_; rw [init_eq])
    (repeat' (first | exact trivial | refine stq ?_ | (refine awp_ret ?_; simp only [then_ret, block_ret, end_ret]) | ((first | refine cv (a1) ?_ | refine cv (a2) ?_ | refine cv (a3) ?_ | refine cv (a4) ?_ | refine stp ?_ | refine nqif_ways (fun h => ?_) ?_ | ((first | refine gif_ways (fun h => ?_) (fun h => ?_) | refine cif_ways (fun h => ?_) (fun h => ?_)) <;> (try simp only [sxn] at h) <;> (try (exfalso; omega)))) <;> (try (refine wS ?_)))))
    all_goals (try simp only [sxd, z0, p0, Nat.reduceEqDiff, ↓reduceIte, Tryz.f13, hr])
    all_goals (exfalso; apply m1; clear a1 a2 a3 a4; simp_all <;> omega)
end Go.Proofs.YtcoflmckbcnlpaaGreatDoor