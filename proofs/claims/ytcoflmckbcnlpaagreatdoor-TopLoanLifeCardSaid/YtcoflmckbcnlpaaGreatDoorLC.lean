/-
  Terms that are accepted; open days. Conditions: strings fit in memory. More of the kind.
-/
import Derived.Test.YtcoflmckbcnlpaaGreatDoorL9
namespace Go.Proofs.YtcoflmckbcnlpaaGreatDoor
open Go.RowKit
set_option maxRecDepth 100000
set_option linter.unusedSimpArgs false
noncomputable def easyB (t : TermV) (c : CalV) : Bool := decide (t.count ≤ 40) && (decide (c.ho.length ≤ 40) && (decide (c.we.length ≤ 10) && decide (chk33 t c = 0)))
set_option maxHeartbeats 2000000 in
theorem easy_con (t : TermV) (c : CalV) (h1 : t.cur.size ≤ 9223372036854775807) (hs : c.name.size ≤ 9223372036854775807) (hw : c.we.length ≤ 9223372036854775807) (hh : c.ho.length ≤ 9223372036854775807) :
    Con Tryz.prog CtxP 4 [.agg [.ex (.int .i64 t.method), .ex (.int .i64 t.prin), .ex (.int .i64 t.ppm), .ex (.int .i64 t.start), .ex (.int .i64 t.every), .ex (.int .i64 t.count), .ex (.int .i64 t.bal), .ex (.int .i64 t.mode), .ex (.int .i64 t.pen), .ex (.int .i64 t.fee), .ex (.string t.cal), .ex (.string t.cur)], .agg [.ex (.string c.name), .sl (intsC c.we), .sl (intsC c.ho)]] (.val (.ex (.bool (easyB t c)))) := by
  have b1 := ints_len c.we
  have b2 := ints_len c.ho
  have hr : easyB t c = (decide (t.count ≤ 40) && (decide (c.ho.length ≤ 40) && (decide (c.we.length ≤ 10) && decide (chk33 t c = 0)))) := rfl
  by_cases p1 : t.count ≤ 40
  · by_cases p2 : c.ho.length ≤ 40
    · by_cases p3 : c.we.length ≤ 10
      · have hk := chk33_con t c h1 hs (by omega) (by omega)
        rw [decide_eq_true p1, decide_eq_true p2, decide_eq_true p3, Bool.true_and, Bool.true_and, Bool.true_and] at hr
        have p2' : (c.ho.length : Int) ≤ 40 := by omega
        have p3' : (c.we.length : Int) ≤ 10 := by omega
        generalize chk33 t c = E at *
        generalize easyB t c = B at *
        (refine con_val base Tryz.func4 rfl rfl (by kernel_rfl) (Nat.le_of_ble_eq_true rfl) ?_; rw [init_eq])
        (repeat' (first | exact trivial | refine stq ?_ | (refine awp_ret ?_; simp only [then_ret, block_ret, end_ret]) | ((first | refine cv (hk) ?_ | refine stp ?_ | refine nqif_ways (fun h => ?_) ?_ | ((first | refine gif_ways (fun h => ?_) (fun h => ?_) | refine cif_ways (fun h => ?_) (fun h => ?_)) <;> (try simp only [sxn] at h) <;> (try (exfalso; omega)))) <;> (try (refine wS ?_)))))
        all_goals simp only [sxd, z0, p0, Nat.reduceEqDiff, ↓reduceIte, Tryz.f4, *]
      · rw [decide_eq_true p1, decide_eq_true p2, decide_eq_false p3] at hr
        have p2' : (c.ho.length : Int) ≤ 40 := by omega
        have p3' : ¬ (c.we.length : Int) ≤ 10 := by omega
        replace hr : easyB t c = false := hr
        generalize easyB t c = B at *
        (refine con_val base Tryz.func4 rfl rfl (by kernel_rfl) (Nat.le_of_ble_eq_true rfl) ?_; rw [init_eq])
        (repeat' (first | exact trivial | refine stq ?_ | (refine awp_ret ?_; simp only [then_ret, block_ret, end_ret]) | ((first | refine stp ?_ | refine nqif_ways (fun h => ?_) ?_ | ((first | refine gif_ways (fun h => ?_) (fun h => ?_) | refine cif_ways (fun h => ?_) (fun h => ?_)) <;> (try simp only [sxn] at h) <;> (try (exfalso; omega)))) <;> (try (refine wS ?_)))))
        all_goals simp only [sxd, z0, p0, Nat.reduceEqDiff, ↓reduceIte, Tryz.f4, *]
    · rw [decide_eq_true p1, decide_eq_false p2] at hr
      have p2' : ¬ (c.ho.length : Int) ≤ 40 := by omega
      replace hr : easyB t c = false := hr
      generalize easyB t c = B at *
      (refine con_val base Tryz.func4 rfl rfl (by kernel_rfl) (Nat.le_of_ble_eq_true rfl) ?_; rw [init_eq])
      (repeat' (first | exact trivial | refine stq ?_ | (refine awp_ret ?_; simp only [then_ret, block_ret, end_ret]) | ((first | refine stp ?_ | refine nqif_ways (fun h => ?_) ?_ | ((first | refine gif_ways (fun h => ?_) (fun h => ?_) | refine cif_ways (fun h => ?_) (fun h => ?_)) <;> (try simp only [sxn] at h) <;> (try (exfalso; omega)))) <;> (try (refine wS ?_)))))
      all_goals simp only [sxd, z0, p0, Nat.reduceEqDiff, ↓reduceIte, Tryz.f4, *]
  · rw [decide_eq_false p1] at hr
    replace hr : easyB t c = false := hr
    generalize easyB t c = B at *
    (refine con_val base Tryz.func4 rfl rfl (by kernel_rfl) (Nat.le_of_ble_eq_true rfl) ?_; rw [init_eq])
    (repeat' (first | exact trivial | refine stq ?_ | (refine awp_ret ?_; simp only [then_ret, block_ret, end_ret]) | ((first | refine stp ?_ | refine nqif_ways (fun h => ?_) ?_ | ((first | refine gif_ways (fun h => ?_) (fun h => ?_) | refine cif_ways (fun h => ?_) (fun h => ?_)) <;> (try simp only [sxn] at h) <;> (try (exfalso; omega)))) <;> (try (refine wS ?_)))))
    all_goals simp only [sxd, z0, p0, Nat.reduceEqDiff, ↓reduceIte, Tryz.f4, *]
structure Good (t : TermV) (c : CalV) : Prop where
  n1 : Nums1 t
  n2 : Nums2 t
  code : codeB t.cur.data.toList = true
  cal : calE c = 0
  name : t.cal = c.name
  cnt : t.count ≤ 40
  ho : c.ho.length ≤ 40
  we : c.we.length ≤ 10
  s1 : t.cur.size ≤ 9223372036854775807
  s2 : c.name.size ≤ 9223372036854775807
theorem easy_good {t : TermV} {c : CalV} (h : easyB t c = true) (s1 : t.cur.size ≤ 9223372036854775807) (s2 : c.name.size ≤ 9223372036854775807) : Good t c := by
  unfold easyB at h
  simp only [Bool.and_eq_true, decide_eq_true_eq] at h
  obtain ⟨h1, h2, h3, h4⟩ := h
  unfold chk33 at h4
  by_cases m1 : Nums1 t
  · rw [if_pos m1] at h4
    by_cases m2 : Nums2 t
    · rw [if_pos m2] at h4
      by_cases m3 : codeB t.cur.data.toList = true
      · rw [if_pos m3] at h4
        by_cases m4 : calE c = 0
        · rw [if_pos m4] at h4
          by_cases m5 : t.cal = c.name
          · exact ⟨m1, m2, m3, m4, m5, h1, h2, h3, s1, s2⟩
          · rw [if_neg m5] at h4; omega
        · rw [if_neg m4] at h4; omega
      · rw [if_neg m3] at h4; omega
    · rw [if_neg m2] at h4; omega
  · rw [if_neg m1] at h4; omega
theorem swithin_con (x lo hi : Int) : Con Tryz.prog CtxP 79 [.ex (.int .i64 x), .ex (.int .i64 lo), .ex (.int .i64 hi)] (.val (.ex (.bool (!outB lo hi x)))) := by
  refine con_val base Tryz.func79 rfl rfl (by kernel_rfl) (Nat.le_of_ble_eq_true rfl) ?_
  rw [init_eq]
  (repeat' (first | exact trivial | refine stq ?_ | (refine awp_ret ?_; simp only [then_ret, block_ret, end_ret]) | ((first | refine stp ?_ | refine nqif_ways (fun h => ?_) ?_ | ((first | refine gif_ways (fun h => ?_) (fun h => ?_) | refine cif_ways (fun h => ?_) (fun h => ?_)) <;> (try simp only [sxn] at h) <;> (try (exfalso; omega)))) <;> (try (refine wS ?_)))))
  all_goals (try simp only [sxd, z0, p0, Nat.reduceEqDiff, ↓reduceIte, Tryz.f79])
  all_goals (unfold outB; rw [Bool.eq_iff_iff]; simp <;> omega)
theorem outB_no {lo hi x : Int} (h1 : lo ≤ x) (h2 : x ≤ hi) : outB lo hi x = false := by
  unfold outB
  rw [decide_eq_false (by omega), decide_eq_false (by omega)]; rfl
set_option maxHeartbeats 2000000 in
theorem sCheck_con {t : TermV} {c : CalV} (g : Good t c) :
    Con Tryz.prog CtxP 44 [.agg [.ex (.int .i64 t.method), .ex (.int .i64 t.prin), .ex (.int .i64 t.ppm), .ex (.int .i64 t.start), .ex (.int .i64 t.every), .ex (.int .i64 t.count), .ex (.int .i64 t.bal), .ex (.int .i64 t.mode), .ex (.int .i64 t.pen), .ex (.int .i64 t.fee), .ex (.string t.cal), .ex (.string t.cur)], .agg [.ex (.string c.name), .sl (intsC c.we), .sl (intsC c.ho)]] (.val (.ex (.int .i64 0))) := by
  obtain ⟨⟨p1, p2⟩, ⟨p3, p4⟩, p5, p6, p7, p8, ⟨p9, p10⟩, p11, p12⟩ := g.n1
  obtain ⟨⟨q1, q2⟩, q3, q4⟩ := g.n2
  have a1 := swithin_con t.method 1 4
  rw [outB_no p1 p2] at a1
  have a2 := swithin_con t.prin 1 1000000000000
  rw [outB_no p3 p4] at a2
  have a3 := swithin_con t.ppm 0 1000000
  rw [p5] at a3
  have a4 := swithin_con t.pen 0 1000000
  rw [p6] at a4
  have a5 := swithin_con t.fee 0 1000000
  rw [p7] at a5
  have a6 := dayValid_con t.start
  rw [p8] at a6
  have a7 := swithin_con t.every 1 12
  rw [outB_no p9 p10] at a7
  have a8 := swithin_con t.count 1 120
  rw [outB_no p11 p12] at a8
  have a9 := mode_con t.mode
  rw [q4] at a9
  have a10 := swithin_con t.bal 0 (t.prin - 1)
  rw [outB_no q1 (by omega)] at a10
  have a11 := Code_con t.cur g.s1
  rw [g.code] at a11
  have a12 := calCheck_con c g.s2 (by have := g.we; omega) (by have := g.ho; omega)
  rw [g.cal] at a12
  have he : decide (t.cal = c.name) = true := decide_eq_true g.name
  by_cases hm : t.method = 4
  · clear g q3
    (refine con_val base Tryz.func44 rfl rfl (by kernel_rfl) (Nat.le_of_ble_eq_true rfl) ?_; rw [init_eq])
    (repeat' (first | exact trivial | refine stq ?_ | (refine awp_ret ?_; simp only [then_ret, block_ret, end_ret]) | ((first | refine cv (a1) ?_ | refine cv (a2) ?_ | refine cv (a3) ?_ | refine cv (a4) ?_ | refine cv (a5) ?_ | refine cv (a6) ?_ | refine cv (a7) ?_ | refine cv (a8) ?_ | refine cv (a9) ?_ | refine cv (a10) ?_ | refine cv (a11) ?_ | refine cv (a12) ?_ | refine stp ?_ | refine nqif_ways (fun h => ?_) ?_ | ((first | refine gif_ways (fun h => ?_) (fun h => ?_) | refine cif_ways (fun h => ?_) (fun h => ?_)) <;> (try simp only [sxn] at h) <;> (try (exfalso; omega)))) <;> (try (refine wS ?_)))))
    all_goals simp only [sxd, z0, p0, Nat.reduceEqDiff, ↓reduceIte, Tryz.f44, *]
  · have hb : t.bal = 0 := by omega
    clear g q3
    (refine con_val base Tryz.func44 rfl rfl (by kernel_rfl) (Nat.le_of_ble_eq_true rfl) ?_; rw [init_eq])
    (repeat' (first | exact trivial | refine stq ?_ | (refine awp_ret ?_; simp only [then_ret, block_ret, end_ret]) | ((first | refine cv (a1) ?_ | refine cv (a2) ?_ | refine cv (a3) ?_ | refine cv (a4) ?_ | refine cv (a5) ?_ | refine cv (a6) ?_ | refine cv (a7) ?_ | refine cv (a8) ?_ | refine cv (a9) ?_ | refine cv (a11) ?_ | refine cv (a12) ?_ | refine stp ?_ | refine nqif_ways (fun h => ?_) ?_ | ((first | refine gif_ways (fun h => ?_) (fun h => ?_) | refine cif_ways (fun h => ?_) (fun h => ?_)) <;> (try simp only [sxn] at h) <;> (try (exfalso; omega)))) <;> (try (refine wS ?_)))))
    all_goals simp only [sxd, z0, p0, Nat.reduceEqDiff, ↓reduceIte, Tryz.f44, *]
end Go.Proofs.YtcoflmckbcnlpaaGreatDoor
namespace Go.Proofs.YtcoflmckbcnlpaaGreatDoor
open Go.RowKit
set_option maxRecDepth 100000
set_option linter.unusedSimpArgs false
def openB (c : CalV) (x : Int) : Bool := dayB x && (!hasB c.we ((x + 5) % 7) && !hasB c.ho x)
theorem Open_con (c : CalV) (x : Int) (h0 : 0 ≤ x) (h1 : x ≤ 73048) (hw : c.we.length ≤ 1000000) (hh : c.ho.length ≤ 1000000) : Con Tryz.prog CtxP 144 [.agg [.ex (.string c.name), .sl (intsC c.we), .sl (intsC c.ho)], .ex (.int .i64 x)] (.val (.ex (.bool (openB c x)))) := by
  have a1 := dayValid_con x
  rw [dayB_yes h0 h1] at a1
  have a2 := Weekday_con x h0 h1
  have a3 := Contains_con c.we ((x + 5) % 7) hw
  have a4 := Contains_con c.ho x hh
  have hr : openB c x = (!hasB c.we ((x + 5) % 7) && !hasB c.ho x) := by unfold openB; rw [dayB_yes h0 h1]; rfl
  generalize openB c x = B at *
  generalize hasB c.we ((x + 5) % 7) = b1 at *
  generalize hasB c.ho x = b2 at *
  refine con_val base Tryz.func144 rfl rfl (by kernel_rfl) (Nat.le_of_ble_eq_true rfl) ?_
  rw [init_eq]
  cases b1 with
  | true =>
    replace hr : B = false := hr
    (repeat' (first | exact trivial | refine stq ?_ | (refine awp_ret ?_; simp only [then_ret, block_ret, end_ret]) | ((first | refine cv (a1) ?_ | refine cv (a2) ?_ | refine cv (a3) ?_ | refine cv (a4) ?_ | refine stp ?_ | refine nqif_ways (fun h => ?_) ?_ | ((first | refine gif_ways (fun h => ?_) (fun h => ?_) | refine cif_ways (fun h => ?_) (fun h => ?_)) <;> (try simp only [sxn] at h) <;> (try (exfalso; omega)))) <;> (try (refine wS ?_)))))
    all_goals simp only [sxd, z0, p0, Nat.reduceEqDiff, ↓reduceIte, Tryz.f144, *]
  | false => cases b2 with
    | true =>
      replace hr : B = false := hr
      (repeat' (first | exact trivial | refine stq ?_ | (refine awp_ret ?_; simp only [then_ret, block_ret, end_ret]) | ((first | refine cv (a1) ?_ | refine cv (a2) ?_ | refine cv (a3) ?_ | refine cv (a4) ?_ | refine stp ?_ | refine nqif_ways (fun h => ?_) ?_ | ((first | refine gif_ways (fun h => ?_) (fun h => ?_) | refine cif_ways (fun h => ?_) (fun h => ?_)) <;> (try simp only [sxn] at h) <;> (try (exfalso; omega)))) <;> (try (refine wS ?_)))))
      all_goals simp only [sxd, z0, p0, Nat.reduceEqDiff, ↓reduceIte, Tryz.f144, *]
    | false =>
      replace hr : B = true := hr
      (repeat' (first | exact trivial | refine stq ?_ | (refine awp_ret ?_; simp only [then_ret, block_ret, end_ret]) | ((first | refine cv (a1) ?_ | refine cv (a2) ?_ | refine cv (a3) ?_ | refine cv (a4) ?_ | refine stp ?_ | refine nqif_ways (fun h => ?_) ?_ | ((first | refine gif_ways (fun h => ?_) (fun h => ?_) | refine cif_ways (fun h => ?_) (fun h => ?_)) <;> (try simp only [sxn] at h) <;> (try (exfalso; omega)))) <;> (try (refine wS ?_)))))
      all_goals simp only [sxd, z0, p0, Nat.reduceEqDiff, ↓reduceIte, Tryz.f144, *]
theorem next1_con (c : CalV) (x : Int) (h0 : 0 ≤ x) (h1 : x ≤ 73048) (hw : c.we.length ≤ 1000000) (hh : c.ho.length ≤ 1000000) : Con Tryz.prog CtxP 143 [.ex (.int .i64 x), .rp [.ex (.string c.name), .sl (intsC c.we), .sl (intsC c.ho)] 0] (.val (.ex (.bool (openB c x)))) := by
  have a := Open_con c x h0 h1 hw hh
  generalize openB c x = B at *
  refine con_val base Tryz.func143 rfl rfl (by kernel_rfl) (Nat.le_of_ble_eq_true rfl) ?_
  rw [init_eq]
  (repeat' (first | exact trivial | refine stq ?_ | (refine awp_ret ?_; simp only [then_ret, block_ret, end_ret]) | ((first | refine cv (a) ?_ | refine stp ?_ | refine nqif_ways (fun h => ?_) ?_ | ((first | refine gif_ways (fun h => ?_) (fun h => ?_) | refine cif_ways (fun h => ?_) (fun h => ?_)) <;> (try simp only [sxn] at h) <;> (try (exfalso; omega)))) <;> (try (refine wS ?_)))))
  all_goals simp only [sxd, z0, p0, Nat.reduceEqDiff, ↓reduceIte, Tryz.f143, *]
theorem prev1_con (c : CalV) (x : Int) (h0 : 0 ≤ x) (h1 : x ≤ 73048) (hw : c.we.length ≤ 1000000) (hh : c.ho.length ≤ 1000000) : Con Tryz.prog CtxP 145 [.ex (.int .i64 x), .rp [.ex (.string c.name), .sl (intsC c.we), .sl (intsC c.ho)] 0] (.val (.ex (.bool (openB c x)))) := by
  have a := Open_con c x h0 h1 hw hh
  generalize openB c x = B at *
  refine con_val base Tryz.func145 rfl rfl (by kernel_rfl) (Nat.le_of_ble_eq_true rfl) ?_
  rw [init_eq]
  (repeat' (first | exact trivial | refine stq ?_ | (refine awp_ret ?_; simp only [then_ret, block_ret, end_ret]) | ((first | refine cv (a) ?_ | refine stp ?_ | refine nqif_ways (fun h => ?_) ?_ | ((first | refine gif_ways (fun h => ?_) (fun h => ?_) | refine cif_ways (fun h => ?_) (fun h => ?_)) <;> (try simp only [sxn] at h) <;> (try (exfalso; omega)))) <;> (try (refine wS ?_)))))
  all_goals simp only [sxd, z0, p0, Nat.reduceEqDiff, ↓reduceIte, Tryz.f145, *]
def srchV : Option Int → Int
  | some r => r
  | none => 0
def srchE : Option Int → Int
  | some _ => 0
  | none => 11
theorem next_step {o : Int → Bool} {j : Nat} {z : Int} (h : z ≤ 73048) : nextF o (j + 1) z = if o z = true then some z else nextF o j (z + 1) := by rw [nextF, if_pos h]
theorem prev_step {o : Int → Bool} {j : Nat} {z : Int} (h : 0 ≤ z) : prevF o (j + 1) z = if o z = true then some z else prevF o j (z - 1) := by rw [prevF, if_pos h]
theorem next_end {o : Int → Bool} {j : Nat} {z : Int} (h : ¬ z ≤ 73048) : nextF o j z = none := by
  cases j with
  | zero => rfl
  | succ j => rw [nextF, if_neg h]
theorem prev_end {o : Int → Bool} {j : Nat} {z : Int} (h : ¬ 0 ≤ z) : prevF o j z = none := by
  cases j with
  | zero => rfl
  | succ j => rw [prevF, if_neg h]
theorem searchN_con (c : CalV) (x : Int) (h0 : 0 ≤ x) (h1 : x ≤ 73048) (hw : c.we.length ≤ 1000000) (hh : c.ho.length ≤ 1000000) : Con Tryz.prog CtxP 142 [.ex (.int .i64 x), .ex (.int .i64 1), .fn 143 [.rp [.ex (.string c.name), .sl (intsC c.we), .sl (intsC c.ho)] 0]] (.val (.tup [.ex (.int .i64 (srchV (nextF (openB c) 73050 x))), .ex (.int .i64 (srchE (nextF (openB c) 73050 x)))])) := by
  have a1 := dayValid_con x
  rw [dayB_yes h0 h1] at a1
  have hcl := Lib.hid fun z (z0 : 0 ≤ z) (z1 : z ≤ 73048) => next1_con c z z0 z1 hw hh
  generalize hR : nextF (openB c) 73050 x = R
  refine con_val base Tryz.func142 rfl rfl (by kernel_rfl) (Nat.le_of_ble_eq_true rfl) ?_
  rw [init_eq]
  (repeat' (first | exact trivial | refine stq ?_ | (refine awp_ret ?_; simp only [then_ret, block_ret, end_ret]) | ((first | refine cv (a1) ?_ | refine stp ?_ | refine nqif_ways (fun h => ?_) ?_ | ((first | refine gif_ways (fun h => ?_) (fun h => ?_) | refine cif_ways (fun h => ?_) (fun h => ?_)) <;> (try simp only [sxn] at h) <;> (try (exfalso; omega)))) <;> (try (refine wS ?_)))))
  refine vloop (fun n tm hp nx => ∃ (j : Nat) (z : Int), n = j ∧ 0 ≤ z ∧ z ≤ 73049 ∧ 73049 < z + j ∧ Hid (nextF (openB c) j z = R) ∧ tm 0 = .ex (.int .i64 z) ∧ tm 1 = .ex (.int .i64 1) ∧ tm 2 = .fn 143 [.rp [.ex (.string c.name), .sl (intsC c.we), .sl (intsC c.ho)] 0]) 73050 ⟨73050, x, rfl, h0, by omega, by omega, Lib.hid hR, by exact byS, by exact byS, by exact byS⟩ ?_
  clear a1 hR h0 h1 hw hh
  rintro n tm hp nx ⟨j, z, rfl, z0, z1, hj, hz, t0, t1, t2⟩
  have a1 := dayValid_con z
  by_cases hz1 : z ≤ 73048
  · rw [dayB_yes z0 hz1] at a1
    have a2 := hcl.out z z0 hz1
    obtain ⟨j, rfl⟩ : ∃ i, n = i + 1 := ⟨n - 1, by omega⟩
    have hs := hz.out
    rw [next_step hz1] at hs
    clear hz
    cases ho : openB c z with
    | true =>
      rw [ho] at a2 hs
      rw [if_pos rfl] at hs
      have r1 : srchV R = z := by rw [← hs]; rfl
      have r2 : srchE R = 0 := by rw [← hs]; rfl
      clear hs ho hcl
      (repeat' (first | exact trivial | refine stq ?_ | (refine awp_ret ?_; simp only [then_ret, block_ret, end_ret]) | ((first | refine cv (a1) ?_ | refine cv (a2) ?_ | refine stp ?_ | refine nqif_ways (fun h => ?_) ?_ | ((first | refine gif_ways (fun h => ?_) (fun h => ?_) | refine cif_ways (fun h => ?_) (fun h => ?_)) <;> (try simp only [sxn] at h) <;> (try (exfalso; omega)))) <;> (try (refine wS ?_)))))
      all_goals simp only [sxd, z0, p0, Nat.reduceEqDiff, ↓reduceIte, Tryz.f142, *]
    | false =>
      rw [ho] at a2 hs
      rw [if_neg (by simp)] at hs
      replace hs := Lib.hid hs
      clear ho hcl
      (repeat' (first | exact trivial | refine stq ?_ | (refine awp_ret ?_; simp only [then_ret, block_ret, end_ret]) | ((first | refine cv (a1) ?_ | refine cv (a2) ?_ | refine stp ?_ | refine nqif_ways (fun h => ?_) ?_ | ((first | refine gif_ways (fun h => ?_) (fun h => ?_) | refine cif_ways (fun h => ?_) (fun h => ?_)) <;> (try simp only [sxn] at h) <;> (try (exfalso; omega)))) <;> (try (refine wS ?_)))))
      all_goals exact kround_i j (by omega) ⟨j, z + 1, rfl, by omega, by omega, by omega, hs, by exact byS, by exact byS, by exact byS⟩
  · have hv : dayB z = false := by unfold dayB; rw [decide_eq_false hz1, Bool.and_false]
    rw [hv] at a1
    have hs := hz.out
    rw [next_end hz1] at hs
    have r1 : srchV R = 0 := by rw [← hs]; rfl
    have r2 : srchE R = 11 := by rw [← hs]; rfl
    clear hs hz hcl hv
    (repeat' (first | exact trivial | refine stq ?_ | (refine awp_ret ?_; simp only [then_ret, block_ret, end_ret]) | ((first | refine cv (a1) ?_ | refine stp ?_ | refine nqif_ways (fun h => ?_) ?_ | ((first | refine gif_ways (fun h => ?_) (fun h => ?_) | refine cif_ways (fun h => ?_) (fun h => ?_)) <;> (try simp only [sxn] at h) <;> (try (exfalso; omega)))) <;> (try (refine wS ?_)))))
    all_goals simp only [sxd, z0, p0, Nat.reduceEqDiff, ↓reduceIte, Tryz.f142, *]
theorem searchP_con (c : CalV) (x : Int) (h0 : 0 ≤ x) (h1 : x ≤ 73048) (hw : c.we.length ≤ 1000000) (hh : c.ho.length ≤ 1000000) : Con Tryz.prog CtxP 142 [.ex (.int .i64 x), .ex (.int .i64 (-1)), .fn 145 [.rp [.ex (.string c.name), .sl (intsC c.we), .sl (intsC c.ho)] 0]] (.val (.tup [.ex (.int .i64 (srchV (prevF (openB c) 73050 x))), .ex (.int .i64 (srchE (prevF (openB c) 73050 x)))])) := by
  have a1 := dayValid_con x
  rw [dayB_yes h0 h1] at a1
  have hcl := Lib.hid fun z (z0 : 0 ≤ z) (z1 : z ≤ 73048) => prev1_con c z z0 z1 hw hh
  generalize hR : prevF (openB c) 73050 x = R
  refine con_val base Tryz.func142 rfl rfl (by kernel_rfl) (Nat.le_of_ble_eq_true rfl) ?_
  rw [init_eq]
  (repeat' (first | exact trivial | refine stq ?_ | (refine awp_ret ?_; simp only [then_ret, block_ret, end_ret]) | ((first | refine cv (a1) ?_ | refine stp ?_ | refine nqif_ways (fun h => ?_) ?_ | ((first | refine gif_ways (fun h => ?_) (fun h => ?_) | refine cif_ways (fun h => ?_) (fun h => ?_)) <;> (try simp only [sxn] at h) <;> (try (exfalso; omega)))) <;> (try (refine wS ?_)))))
  refine vloop (fun n tm hp nx => ∃ (j : Nat) (z : Int), n = j ∧ -1 ≤ z ∧ z ≤ 73048 ∧ z < j ∧ Hid (prevF (openB c) j z = R) ∧ tm 0 = .ex (.int .i64 z) ∧ tm 1 = .ex (.int .i64 (-1)) ∧ tm 2 = .fn 145 [.rp [.ex (.string c.name), .sl (intsC c.we), .sl (intsC c.ho)] 0]) 73050 ⟨73050, x, rfl, by omega, by omega, by omega, Lib.hid hR, by exact byS, by exact byS, by exact byS⟩ ?_
  clear a1 hR h0 h1 hw hh
  rintro n tm hp nx ⟨j, z, rfl, z0, z1, hj, hz, t0, t1, t2⟩
  have a1 := dayValid_con z
  by_cases hz1 : 0 ≤ z
  · rw [dayB_yes hz1 z1] at a1
    have a2 := hcl.out z hz1 z1
    obtain ⟨j, rfl⟩ : ∃ i, n = i + 1 := ⟨n - 1, by omega⟩
    have hs := hz.out
    rw [prev_step hz1] at hs
    clear hz
    cases ho : openB c z with
    | true =>
      rw [ho] at a2 hs
      rw [if_pos rfl] at hs
      have r1 : srchV R = z := by rw [← hs]; rfl
      have r2 : srchE R = 0 := by rw [← hs]; rfl
      clear hs ho hcl
      (repeat' (first | exact trivial | refine stq ?_ | (refine awp_ret ?_; simp only [then_ret, block_ret, end_ret]) | ((first | refine cv (a1) ?_ | refine cv (a2) ?_ | refine stp ?_ | refine nqif_ways (fun h => ?_) ?_ | ((first | refine gif_ways (fun h => ?_) (fun h => ?_) | refine cif_ways (fun h => ?_) (fun h => ?_)) <;> (try simp only [sxn] at h) <;> (try (exfalso; omega)))) <;> (try (refine wS ?_)))))
      all_goals simp only [sxd, z0, p0, Nat.reduceEqDiff, ↓reduceIte, Tryz.f142, *]
    | false =>
      rw [ho] at a2 hs
      rw [if_neg (by simp)] at hs
      replace hs := Lib.hid hs
      clear ho hcl
      (repeat' (first | exact trivial | refine stq ?_ | (refine awp_ret ?_; simp only [then_ret, block_ret, end_ret]) | ((first | refine cv (a1) ?_ | refine cv (a2) ?_ | refine stp ?_ | refine nqif_ways (fun h => ?_) ?_ | ((first | refine gif_ways (fun h => ?_) (fun h => ?_) | refine cif_ways (fun h => ?_) (fun h => ?_)) <;> (try simp only [sxn] at h) <;> (try (exfalso; omega)))) <;> (try (refine wS ?_)))))
      all_goals exact kround_i j (by omega) ⟨j, z - 1, rfl, by omega, by omega, by omega, hs, by exact byS, by exact byS, by exact byS⟩
  · have hv : dayB z = false := by unfold dayB; rw [decide_eq_false hz1, Bool.false_and]
    rw [hv] at a1
    have hs := hz.out
    rw [prev_end hz1] at hs
    have r1 : srchV R = 0 := by rw [← hs]; rfl
    have r2 : srchE R = 11 := by rw [← hs]; rfl
    clear hs hz hcl hv
    (repeat' (first | exact trivial | refine stq ?_ | (refine awp_ret ?_; simp only [then_ret, block_ret, end_ret]) | ((first | refine cv (a1) ?_ | refine stp ?_ | refine nqif_ways (fun h => ?_) ?_ | ((first | refine gif_ways (fun h => ?_) (fun h => ?_) | refine cif_ways (fun h => ?_) (fun h => ?_)) <;> (try simp only [sxn] at h) <;> (try (exfalso; omega)))) <;> (try (refine wS ?_)))))
    all_goals simp only [sxd, z0, p0, Nat.reduceEqDiff, ↓reduceIte, Tryz.f142, *]
theorem Next_con (c : CalV) (x : Int) (h0 : 0 ≤ x) (h1 : x ≤ 73048) (hw : c.we.length ≤ 1000000) (hh : c.ho.length ≤ 1000000) : Con Tryz.prog CtxP 95 [.agg [.ex (.string c.name), .sl (intsC c.we), .sl (intsC c.ho)], .ex (.int .i64 x)] (.val (.tup [.ex (.int .i64 (srchV (nextF (openB c) 73050 x))), .ex (.int .i64 (srchE (nextF (openB c) 73050 x)))])) := by
  have a := searchN_con c x h0 h1 hw hh
  generalize nextF (openB c) 73050 x = R at *
  refine con_val base Tryz.func95 rfl rfl (by kernel_rfl) (Nat.le_of_ble_eq_true rfl) ?_
  rw [init_eq]
  (repeat' (first | exact trivial | refine stq ?_ | (refine awp_ret ?_; simp only [then_ret, block_ret, end_ret]) | ((first | refine cv (a) ?_ | refine stp ?_ | refine nqif_ways (fun h => ?_) ?_ | ((first | refine gif_ways (fun h => ?_) (fun h => ?_) | refine cif_ways (fun h => ?_) (fun h => ?_)) <;> (try simp only [sxn] at h) <;> (try (exfalso; omega)))) <;> (try (refine wS ?_)))))
  all_goals simp only [sxd, z0, p0, Nat.reduceEqDiff, ↓reduceIte, Tryz.f95, *]
theorem Prev_con (c : CalV) (x : Int) (h0 : 0 ≤ x) (h1 : x ≤ 73048) (hw : c.we.length ≤ 1000000) (hh : c.ho.length ≤ 1000000) : Con Tryz.prog CtxP 96 [.agg [.ex (.string c.name), .sl (intsC c.we), .sl (intsC c.ho)], .ex (.int .i64 x)] (.val (.tup [.ex (.int .i64 (srchV (prevF (openB c) 73050 x))), .ex (.int .i64 (srchE (prevF (openB c) 73050 x)))])) := by
  have a := searchP_con c x h0 h1 hw hh
  generalize prevF (openB c) 73050 x = R at *
  refine con_val base Tryz.func96 rfl rfl (by kernel_rfl) (Nat.le_of_ble_eq_true rfl) ?_
  rw [init_eq]
  (repeat' (first | exact trivial | refine stq ?_ | (refine awp_ret ?_; simp only [then_ret, block_ret, end_ret]) | ((first | refine cv (a) ?_ | refine stp ?_ | refine nqif_ways (fun h => ?_) ?_ | ((first | refine gif_ways (fun h => ?_) (fun h => ?_) | refine cif_ways (fun h => ?_) (fun h => ?_)) <;> (try simp only [sxn] at h) <;> (try (exfalso; omega)))) <;> (try (refine wS ?_)))))
  all_goals simp only [sxd, z0, p0, Nat.reduceEqDiff, ↓reduceIte, Tryz.f96, *]
theorem Adjust_con {x y m d : Int} (hc : IsCiv x y m d) (c : CalV) (hw : c.we.length ≤ 1000000) (hh : c.ho.length ≤ 1000000) : Con Tryz.prog CtxP 56 [.agg [.ex (.string c.name), .sl (intsC c.we), .sl (intsC c.ho)], .ex (.int .i64 x), .ex (.int .i64 2)] (.val (.tup [.ex (.int .i64 (srchV (adjF (openB c) (endX (12 * y + m - 1)) x))), .ex (.int .i64 (srchE (adjF (openB c) (endX (12 * y + m - 1)) x)))])) := by
  obtain ⟨h0, h1⟩ := civ_range hc
  have a0 := dayValid_con x
  rw [dayB_yes h0 h1] at a0
  have a1 := Next_con c x h0 h1 hw hh
  have a2 := Prev_con c x h0 h1 hw hh
  have a3 := MonthEnd_con hc
  generalize endX (12 * y + m - 1) = me at *
  have hr : adjF (openB c) me x = match nextF (openB c) 73050 x with
    | some r => if r ≤ me then some r else prevF (openB c) 73050 x
    | none => prevF (openB c) 73050 x := rfl
  generalize adjF (openB c) me x = R at *
  generalize prevF (openB c) 73050 x = R2 at *
  clear hc
  cases hn : nextF (openB c) 73050 x with
  | none =>
    rw [hn] at a1 hr
    dsimp only at hr
    subst hr
    have e1 : srchV none = 0 := rfl
    have e2 : srchE none = 11 := rfl
    rw [e1, e2] at a1
    clear hn
    (refine con_val base Tryz.func56 rfl rfl (by kernel_rfl) (Nat.le_of_ble_eq_true rfl) ?_; rw [init_eq])
    (repeat' (first | exact trivial | refine stq ?_ | (refine awp_ret ?_; simp only [then_ret, block_ret, end_ret]) | ((first | refine cv (a0) ?_ | refine cv (a1) ?_ | refine cv (a2) ?_ | refine cv (a3) ?_ | refine stp ?_ | refine nqif_ways (fun h => ?_) ?_ | ((first | refine gif_ways (fun h => ?_) (fun h => ?_) | refine cif_ways (fun h => ?_) (fun h => ?_)) <;> (try simp only [sxn] at h) <;> (try (exfalso; omega)))) <;> (try (refine wS ?_)))))
    all_goals simp only [sxd, z0, p0, Nat.reduceEqDiff, ↓reduceIte, Tryz.f56, *]
  | some r =>
    rw [hn] at a1 hr
    dsimp only at hr
    have e1 : srchV (some r) = r := rfl
    have e2 : srchE (some r) = 0 := rfl
    rw [e1, e2] at a1
    clear hn
    by_cases hle : r ≤ me
    · rw [if_pos hle] at hr
      have r1 : srchV R = r := by rw [hr]; rfl
      have r2 : srchE R = 0 := by rw [hr]; rfl
      clear hr
      (refine con_val base Tryz.func56 rfl rfl (by kernel_rfl) (Nat.le_of_ble_eq_true rfl) ?_; rw [init_eq])
      (repeat' (first | exact trivial | refine stq ?_ | (refine awp_ret ?_; simp only [then_ret, block_ret, end_ret]) | ((first | refine cv (a0) ?_ | refine cv (a1) ?_ | refine cv (a2) ?_ | refine cv (a3) ?_ | refine stp ?_ | refine nqif_ways (fun h => ?_) ?_ | ((first | refine gif_ways (fun h => ?_) (fun h => ?_) | refine cif_ways (fun h => ?_) (fun h => ?_)) <;> (try simp only [sxn] at h) <;> (try (exfalso; omega)))) <;> (try (refine wS ?_)))))
      all_goals simp only [sxd, z0, p0, Nat.reduceEqDiff, ↓reduceIte, Tryz.f56, *]
    · rw [if_neg hle] at hr
      subst hr
      (refine con_val base Tryz.func56 rfl rfl (by kernel_rfl) (Nat.le_of_ble_eq_true rfl) ?_; rw [init_eq])
      (repeat' (first | exact trivial | refine stq ?_ | (refine awp_ret ?_; simp only [then_ret, block_ret, end_ret]) | ((first | refine cv (a0) ?_ | refine cv (a1) ?_ | refine cv (a2) ?_ | refine cv (a3) ?_ | refine stp ?_ | refine nqif_ways (fun h => ?_) ?_ | ((first | refine gif_ways (fun h => ?_) (fun h => ?_) | refine cif_ways (fun h => ?_) (fun h => ?_)) <;> (try simp only [sxn] at h) <;> (try (exfalso; omega)))) <;> (try (refine wS ?_)))))
      all_goals simp only [sxd, z0, p0, Nat.reduceEqDiff, ↓reduceIte, Tryz.f56, *]
end Go.Proofs.YtcoflmckbcnlpaaGreatDoor
namespace Go.Proofs.YtcoflmckbcnlpaaGreatDoor
open Go.RowKit
set_option maxRecDepth 100000
set_option linter.unusedSimpArgs false
theorem nogo_ret {Q : Exit → AS → Prop} {σ : AS} : noGo Q .ret σ = Q .ret σ := rfl
theorem nogo_normal {Q : Exit → AS → Prop} {σ : AS} : noGo Q .normal σ = Q .normal σ := rfl
theorem ints_app1 (l : List Int) (n : Int) : intsC l ++ [[.ex (.int .i64 n)]] = intsC (l ++ [n]) := by simp [intsC]
theorem ints_p0 (l : List Int) : ((intsC l).all (·.all p0)) = true := by
  rw [List.all_eq_true]
  intro n hn
  obtain ⟨m, _, rfl⟩ := List.mem_map.1 hn
  rfl
theorem ints_z0 (l : List Int) : (intsC l).map (·.map z0) = intsC l := by
  rw [intsC, List.map_map]
  exact List.map_congr_left fun m _ => rfl
def daysUp (D : Nat → Option Int) : Nat → Option (List Int)
  | 0 => some []
  | k + 1 => match daysUp D k, D k with
    | some l, some x => some (l ++ [x])
    | _, _ => none
theorem days_ways (D : Nat → Option Int) : ∀ n : Nat, (∃ ds, daysUp D n = some ds) ∨ ∃ k ds, k < n ∧ daysUp D k = some ds ∧ D k = none
  | 0 => .inl ⟨[], rfl⟩
  | n + 1 => by
    rcases days_ways D n with ⟨ds, h⟩ | ⟨k, ds, h1, h2⟩
    · cases hx : D n with
      | none => exact .inr ⟨n, ds, by omega, h, hx⟩
      | some x => exact .inl ⟨ds ++ [x], by rw [daysUp, h, hx]⟩
    · exact .inr ⟨k, ds, by omega, h2⟩
theorem days_len {D : Nat → Option Int} : ∀ {n : Nat} {ds : List Int}, daysUp D n = some ds → ds.length = n
  | 0, _, h => by cases h; rfl
  | n + 1, ds, h => by
    rw [daysUp] at h
    split at h
    · rename_i l x h1 h2
      cases h
      rw [List.length_append, days_len h1]; rfl
    · cases h
theorem days_down {D : Nat → Option Int} : ∀ {n : Nat} {ds : List Int}, daysUp D n = some ds → ∀ k, k < n → ∃ x, D k = some x
  | 0, _, _, k, hk => by omega
  | n + 1, ds, h, k, hk => by
    rw [daysUp] at h
    split at h
    · rename_i l x h1 h2
      rcases Nat.lt_or_ge k n with h3 | h3
      · exact days_down h1 k h3
      · have : k = n := by omega
        subst this
        exact ⟨x, h2⟩
    · cases h
theorem days_at {D : Nat → Option Int} : ∀ {n : Nat} {ds : List Int}, daysUp D n = some ds → ∀ k, k < n → ds[k]? = D k
  | 0, _, _, k, hk => by omega
  | n + 1, ds, h, k, hk => by
    rw [daysUp] at h
    split at h
    · rename_i l x h1 h2
      cases h
      have hl := days_len h1
      rcases Nat.lt_or_ge k n with h3 | h3
      · rw [List.getElem?_append_left (by omega)]
        exact days_at h1 k h3
      · have : k = n := by omega
        subst this
        rw [List.getElem?_append_right (by omega), hl, Nat.sub_self, h2]; rfl
    · cases h
theorem days_step {D : Nat → Option Int} {k : Nat} {l : List Int} {x : Int} (h : daysUp D k = some l) (hx : D k = some x) : daysUp D (k + 1) = some (l ++ [x]) := by rw [daysUp, h, hx]
def dayErr (o : Int → Bool) (M0 a every : Int) (i : Nat) : Int := if M0 + ((i : Int) + 1) * every < 26400 then 11 else 1
theorem Good.pos {t : TermV} {c : CalV} (g : Good t c) : 1 ≤ t.count ∧ 1 ≤ t.every ∧ t.every ≤ 12 ∧ 0 ≤ t.start ∧ t.start ≤ 73048 := by
  obtain ⟨_, _, _, _, _, p8, ⟨p9, p10⟩, p11, _⟩ := g.n1
  have := dayB_iff.1 p8
  omega
set_option maxHeartbeats 2000000 in
theorem Days_con {t : TermV} {c : CalV} (g : Good t c) {y m a : Int} (hc : IsCiv t.start y m a) {R : List Int} {E : Int}
    (hR : (daysUp (dayAt (openB c) (12 * y + m - 1) a t.every) t.count.toNat = some R ∧ E = 0) ∨ (R = [] ∧ ∃ (k : Nat) (ds : List Int), k < t.count.toNat ∧ daysUp (dayAt (openB c) (12 * y + m - 1) a t.every) k = some ds ∧ dayAt (openB c) (12 * y + m - 1) a t.every k = none ∧ E = dayErr (openB c) (12 * y + m - 1) a t.every k)) :
    Con Tryz.prog CtxP 18 [.agg [.ex (.int .i64 t.method), .ex (.int .i64 t.prin), .ex (.int .i64 t.ppm), .ex (.int .i64 t.start), .ex (.int .i64 t.every), .ex (.int .i64 t.count), .ex (.int .i64 t.bal), .ex (.int .i64 t.mode), .ex (.int .i64 t.pen), .ex (.int .i64 t.fee), .ex (.string t.cal), .ex (.string t.cur)], .agg [.ex (.string c.name), .sl (intsC c.we), .sl (intsC c.ho)]] (.val (.tup [.sl (intsC R), .ex (.int .i64 E)])) := by
  have hk := sCheck_con g
  have hC := Civil_con hc
  have hg := g.pos
  obtain ⟨g1, g2, g3, g4, g5⟩ := hg
  have hcnt := g.cnt
  have a1 : 1 ≤ a := hc.d1
  have a2 : a ≤ 31 := by have := hc.d2; have := mlen_ge y m; omega
  have hhc := Lib.hid hc
  have hwe : c.we.length ≤ 1000000 := by have := g.we; omega
  have hho : c.ho.length ≤ 1000000 := by have := g.ho; omega
  have m0 : 24000 ≤ 12 * y + m - 1 := by have := hc.y1; have := hc.m1; omega
  have hM := Lib.hid m0
  clear g hc
  generalize hMM : 12 * y + m - 1 = M0 at *
  refine con_val base Tryz.func18 rfl rfl (by kernel_rfl) (Nat.le_of_ble_eq_true rfl) ?_
  rw [init_eq]
  (repeat' (first | exact trivial | refine stq ?_ | (refine awp_ret ?_; simp only [then_ret, block_ret, end_ret]) | ((first | refine cv (hk) ?_ | refine cv (hC) ?_ | refine stp ?_ | refine nqif_ways (fun h => ?_) ?_ | ((first | refine gif_ways (fun h => ?_) (fun h => ?_) | refine cif_ways (fun h => ?_) (fun h => ?_)) <;> (try simp only [sxn] at h) <;> (try (exfalso; omega)))) <;> (try (simp (disch := omega) only [nogo_ret, nogo_normal, sx, Value.oneCell', ↓reduceIte, Nat.reduceAdd, Nat.reduceMul, Nat.reduceEqDiff, Nat.reduceLT, Nat.reduceLeDiff, Int.reduceToNat, Int.reduceEq, Int.reduceLT, Int.reduceLE, Int.reduceNe, *])))))
  refine vloop (fun n tm hp nx => ∃ (k b b2 b3 : Nat) (acc : List Int), n = t.count.toNat - k ∧ k ≤ t.count.toNat ∧ tm 2 = .pt b2 0 0 ∧ hp b2 = some ⟨23, [[.ex (.int .i64 t.method), .ex (.int .i64 t.prin), .ex (.int .i64 t.ppm), .ex (.int .i64 t.start), .ex (.int .i64 t.every), .ex (.int .i64 t.count), .ex (.int .i64 t.bal), .ex (.int .i64 t.mode), .ex (.int .i64 t.pen), .ex (.int .i64 t.fee), .ex (.string t.cal), .ex (.string t.cur)]], true⟩ ∧ b2 < nx ∧ tm 3 = .pt b3 0 0 ∧ hp b3 = some ⟨26, [[.ex (.string c.name), .sl (intsC c.we), .sl (intsC c.ho)]], true⟩ ∧ b3 < nx ∧ tm 9 = .ex (.int .i64 a) ∧ tm 29 = .ex (.int .i64 t.count) ∧ tm 30 = .ex (.int .i64 k) ∧ tm 11 = .ex (.int .i64 0) ∧ Hid (daysUp (dayAt (openB c) M0 a t.every) k = some acc) ∧ acc.length = k ∧ tm 10 = .own b ∧ hp b = some ⟨3, intsC acc, true⟩ ∧ b < nx ∧ b2 ≠ b ∧ b3 ≠ b) t.count.toNat ⟨0, _, _, _, [], rfl, Nat.zero_le _, by exact byQ, by exact byQ, by omega, by exact byQ, by exact byQ, by omega, by exact byS, by exact byS, by exact byS, by exact byS, Lib.hid rfl, rfl, by (simp (disch := omega) only [nogo_ret, nogo_normal, sx, Value.oneCell', ↓reduceIte, Nat.reduceAdd, Nat.reduceMul, Nat.reduceEqDiff, Nat.reduceLT, Nat.reduceLeDiff, Int.reduceToNat, Int.reduceEq, Int.reduceLT, Int.reduceLE, Int.reduceNe, natS, *]; rfl), by exact byS, by omega, by omega, by omega⟩ ?_
  clear hk hC
  rintro n tm hp nx ⟨k, b, b2, b3, acc, hnn, hkl, g2', gh2, hb2, g3', gh3, hb3, g9, g29, g30, g11, hA, hal, g10, gh, hb, hbb2, hbb3⟩
  have q3 := ints_len acc
  have hM0 := Lib.hid m0
  replace hR := Lib.hid hR
  have dA : ∀ i : Nat, dayAt (openB c) M0 a t.every i = if 24000 ≤ M0 + ((i : Int) + 1) * t.every ∧ M0 + ((i : Int) + 1) * t.every < 26400 then adjF (openB c) (endX (M0 + ((i : Int) + 1) * t.every)) (addX (M0 + ((i : Int) + 1) * t.every) a) else none := fun _ => rfl
  have dE : ∀ i : Nat, dayErr (openB c) M0 a t.every i = if M0 + ((i : Int) + 1) * t.every < 26400 then 11 else 1 := fun _ => rfl
  generalize hD : dayAt (openB c) M0 a t.every = D at *
  generalize hDE : dayErr (openB c) M0 a t.every = DE at *
  by_cases hlt : k < t.count.toNat
  · have p1 : 0 < ((k : Int) + 1) * t.every := Int.mul_pos (by omega) (by omega)
    have p2 : ((k : Int) + 1) * t.every ≤ 40 * 12 := Int.mul_le_mul (by omega) (by omega) (by omega) (by omega)
    have hAdd := AddMonths_con (n := ((k : Int) + 1) * t.every) hhc.out (by omega) (by omega) a1 a2
    rw [hMM] at hAdd
    have dk := dA k
    have de := dE k
    have lt' : (k : Int) < t.count := by omega
    have stop : D k = none → R = [] ∧ E = DE k := by
      intro hn
      rcases hR.out with ⟨h1, h2⟩ | ⟨h1, k', ds, h2, h3, h4, h5⟩
      · obtain ⟨x, hx⟩ := days_down h1 k hlt
        rw [hn] at hx; cases hx
      · rcases Nat.lt_trichotomy k k' with h | h | h
        · obtain ⟨x, hx⟩ := days_down h3 k h
          rw [hn] at hx; cases hx
        · subst h; exact ⟨h1, h5⟩
        · obtain ⟨x, hx⟩ := days_down hA.out k' h
          rw [h4] at hx; cases hx
    generalize hP : ((k : Int) + 1) * t.every = P at *
    by_cases hm : M0 + P < 26400
    · have hM1 : 24000 ≤ M0 + P := by omega
      have hadd : addR (M0 + P) a = .tup [.ex (.int .i64 (addX (M0 + P) a)), .ex (.int .i64 0)] := by unfold addR; rw [if_pos ⟨hM1, hm⟩]
      rw [hadd] at hAdd
      rw [if_pos ⟨hM1, hm⟩] at dk
      rw [if_pos hm] at de
      have hadj := Adjust_con (addX_civ hM1 hm a1) c hwe hho
      rw [show 12 * ((M0 + P) / 12) + ((M0 + P) % 12 + 1) - 1 = M0 + P by omega] at hadj
      rw [← dk] at hadj
      generalize addX (M0 + P) a = X at *
      clear dk hadd dA dE
      cases hx : D k with
      | some x =>
        rw [hx] at hadj
        have e1 : srchV (some x) = x := rfl
        have e2 : srchE (some x) = 0 := rfl
        rw [e1, e2] at hadj
        have hnx := Lib.hid (days_step hA.out hx)
        have q6 := ints_app1 acc x
        clear stop hx e1 e2 de
        (repeat' (first | exact trivial | refine stq ?_ | (refine awp_ret ?_; simp only [then_ret, block_ret, end_ret]) | ((first | refine cv (hAdd) ?_ | refine cv (hadj) ?_ | refine stp ?_ | refine nqif_ways (fun h => ?_) ?_ | ((first | refine gif_ways (fun h => ?_) (fun h => ?_) | refine cif_ways (fun h => ?_) (fun h => ?_)) <;> (try simp only [sxn] at h) <;> (try (exfalso; omega)))) <;> (try (simp (disch := omega) only [nogo_ret, nogo_normal, sx, Value.oneCell', ↓reduceIte, Nat.reduceAdd, Nat.reduceMul, Nat.reduceEqDiff, Nat.reduceLT, Nat.reduceLeDiff, Int.reduceToNat, Int.reduceEq, Int.reduceLT, Int.reduceLE, Int.reduceNe, *])))))
        all_goals exact kround_i (t.count.toNat - (k + 1)) (by omega) ⟨k + 1, _, b2, b3, acc ++ [x], rfl, by omega, by exact byS, by exact byQ, by omega, by exact byS, by exact byQ, by omega, by exact byS, by exact byS, by exact byS, by exact byS, hnx, by simp; omega, by (simp (disch := omega) only [nogo_ret, nogo_normal, sx, Value.oneCell', ↓reduceIte, Nat.reduceAdd, Nat.reduceMul, Nat.reduceEqDiff, Nat.reduceLT, Nat.reduceLeDiff, Int.reduceToNat, Int.reduceEq, Int.reduceLT, Int.reduceLE, Int.reduceNe, natS, *]; rfl), by exact byS, by omega, by omega, by omega⟩
      | none =>
        obtain ⟨s1, s2⟩ := stop hx
        rw [de] at s2
        subst s1 s2
        rw [hx] at hadj
        have e1 : srchV none = 0 := rfl
        have e2 : srchE none = 11 := rfl
        rw [e1, e2] at hadj
        clear stop hx e1 e2 de hR
        (repeat' (first | exact trivial | refine stq ?_ | (refine awp_ret ?_; simp only [then_ret, block_ret, end_ret]) | ((first | refine cv (hAdd) ?_ | refine cv (hadj) ?_ | refine stp ?_ | refine nqif_ways (fun h => ?_) ?_ | ((first | refine gif_ways (fun h => ?_) (fun h => ?_) | refine cif_ways (fun h => ?_) (fun h => ?_)) <;> (try simp only [sxn] at h) <;> (try (exfalso; omega)))) <;> (try (simp (disch := omega) only [nogo_ret, nogo_normal, sx, Value.oneCell', ↓reduceIte, Nat.reduceAdd, Nat.reduceMul, Nat.reduceEqDiff, Nat.reduceLT, Nat.reduceLeDiff, Int.reduceToNat, Int.reduceEq, Int.reduceLT, Int.reduceLE, Int.reduceNe, *])))))
        all_goals ((try refine awp_ret ?_); rw [nogo_ret]; simp only [end_ret])
        all_goals simp only [sxd, z0, p0, Nat.reduceEqDiff, ↓reduceIte, Tryz.f18, *]
        all_goals rfl
    · have hadd : addR (M0 + P) a = .tup [.ex (.int .i64 0), .ex (.int .i64 1)] := by unfold addR; rw [if_neg (by omega)]
      rw [hadd] at hAdd
      rw [if_neg (by omega)] at dk
      rw [if_neg hm] at de
      obtain ⟨s1, s2⟩ := stop dk
      rw [de] at s2
      subst s1 s2
      clear dA dE dk de hadd stop hR
      (repeat' (first | exact trivial | refine stq ?_ | (refine awp_ret ?_; simp only [then_ret, block_ret, end_ret]) | ((first | refine cv (hAdd) ?_ | refine stp ?_ | refine nqif_ways (fun h => ?_) ?_ | ((first | refine gif_ways (fun h => ?_) (fun h => ?_) | refine cif_ways (fun h => ?_) (fun h => ?_)) <;> (try simp only [sxn] at h) <;> (try (exfalso; omega)))) <;> (try (simp (disch := omega) only [nogo_ret, nogo_normal, sx, Value.oneCell', ↓reduceIte, Nat.reduceAdd, Nat.reduceMul, Nat.reduceEqDiff, Nat.reduceLT, Nat.reduceLeDiff, Int.reduceToNat, Int.reduceEq, Int.reduceLT, Int.reduceLE, Int.reduceNe, *])))))
      all_goals ((try refine awp_ret ?_); rw [nogo_ret]; simp only [end_ret])
      all_goals simp only [sxd, z0, p0, Nat.reduceEqDiff, ↓reduceIte, Tryz.f18, *]
      all_goals rfl
  · have hke : k = t.count.toNat := by omega
    have lt' : ¬ (k : Int) < t.count := by omega
    have fin : R = acc ∧ E = 0 := by
      rcases hR.out with ⟨h1, h2⟩ | ⟨h1, k', ds, h2, h3, h4, h5⟩
      · rw [← hke, hA.out] at h1
        cases h1; exact ⟨rfl, h2⟩
      · obtain ⟨x, hx⟩ := days_down hA.out k' (by omega)
        rw [h4] at hx; cases hx
    obtain ⟨s1, s2⟩ := fin
    subst s1 s2
    have q7 := ints_p0 R
    have q8 := ints_z0 R
    clear hR dA dE hA
    (repeat' (first | exact trivial | refine stq ?_ | (refine awp_ret ?_; simp only [then_ret, block_ret, end_ret]) | ((first | refine stp ?_ | refine nqif_ways (fun h => ?_) ?_ | ((first | refine gif_ways (fun h => ?_) (fun h => ?_) | refine cif_ways (fun h => ?_) (fun h => ?_)) <;> (try simp only [sxn] at h) <;> (try (exfalso; omega)))) <;> (try (simp (disch := omega) only [nogo_ret, nogo_normal, sx, Value.oneCell', ↓reduceIte, Nat.reduceAdd, Nat.reduceMul, Nat.reduceEqDiff, Nat.reduceLT, Nat.reduceLeDiff, Int.reduceToNat, Int.reduceEq, Int.reduceLT, Int.reduceLE, Int.reduceNe, *])))))
    all_goals ((try refine awp_ret ?_); rw [nogo_ret]; simp only [end_ret])
    all_goals simp only [sxd, z0, p0, Nat.reduceEqDiff, ↓reduceIte, Tryz.f18, *]
end Go.Proofs.YtcoflmckbcnlpaaGreatDoor