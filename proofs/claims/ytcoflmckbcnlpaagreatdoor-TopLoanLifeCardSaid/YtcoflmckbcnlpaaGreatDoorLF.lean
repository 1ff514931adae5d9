/-
  Sums of installments; loans, examined: walked. Conditions: those that each theorem states. More of the kind.
-/
import Derived.Test.YtcoflmckbcnlpaaGreatDoorLE
namespace Go.Proofs.YtcoflmckbcnlpaaGreatDoor
open Go.RowKit
set_option maxRecDepth 100000
set_option linter.unusedSimpArgs false
structure LoanV where
  id : Int
  acc : Int
  st : Int
  pp : Int
  pit : Int
  fee : Int
  pen : Int
  chg : Int
  prov : Int
  loss : Int
  recd : Int
  t : TermV
  dues : List DueV
theorem sums_con (l : List DueV) (hl : l.length ≤ 300) (hd : ∀ x ∈ l, 0 ≤ x.pr ∧ x.pr ≤ 1000000000000 ∧ 0 ≤ x.it ∧ x.it ≤ 1000000000000) : Con Tryz.prog CtxP 30 [.sl (duesC l)] (.val (.tup [.ex (.int .i64 (sumPr l)), .ex (.int .i64 (sumIt l))])) := by
  have q1 := dues_len l
  replace hd := Lib.hid hd
  refine con_val base Tryz.func30 rfl rfl (by kernel_rfl) (Nat.le_of_ble_eq_true rfl) ?_
  rw [init_eq]
  (repeat' (first | exact trivial | refine stq ?_ | (refine awp_ret ?_; simp only [then_ret, block_ret, end_ret]) | ((first | refine stp ?_ | refine nqif_ways (fun h => ?_) ?_ | ((first | refine gif_ways (fun h => ?_) (fun h => ?_) | refine cif_ways (fun h => ?_) (fun h => ?_)) <;> (try simp only [sxn] at h) <;> (try (exfalso; omega)))) <;> (try (refine wS ?_)))))
  refine vloop (fun n tm hp nx => ∃ (k : Nat) (p i : Int), n = l.length - k ∧ k ≤ l.length ∧ 0 ≤ p ∧ p ≤ k * 1000000000000 ∧ 0 ≤ i ∧ i ≤ k * 1000000000000 ∧ Hid (p = sumPr (l.take k) ∧ i = sumIt (l.take k)) ∧ tm 8 = .sl (duesC l) ∧ tm 9 = .ex (.int .i64 l.length) ∧ tm 10 = .ex (.int .i64 k) ∧ tm 4 = .ex (.int .i64 p) ∧ tm 5 = .ex (.int .i64 i)) l.length ⟨0, 0, 0, rfl, Nat.zero_le _, by omega, by omega, by omega, by omega, Lib.hid ⟨rfl, rfl⟩, by exact byS, by exact byS, by exact byS, by exact byS, by exact byS⟩ ?_
  rintro n tm hp nx ⟨k, p, i, rfl, hk, p0, p1, i0, i1, hH, g8, g9, g10, g4, g5⟩
  by_cases hlt : k < l.length
  · have e0 : l[k]? = some l[k] := List.getElem?_eq_getElem hlt
    have hx := hd.out _ (List.getElem_mem hlt)
    generalize l[k] = x at e0 hx
    have q4 := dues_get e0
    obtain ⟨x1, x2, x3, x4⟩ := hx
    have hnx := Lib.hid (show p + x.pr = sumPr (l.take (k + 1)) ∧ i + x.it = sumIt (l.take (k + 1)) from ⟨by rw [sumPr_next e0, hH.out.1], by rw [sumIt_next e0, hH.out.2]⟩)
    clear e0 hH
    (repeat' (first | exact trivial | refine stq ?_ | (refine awp_ret ?_; simp only [then_ret, block_ret, end_ret]) | ((first | refine stp ?_ | refine nqif_ways (fun h => ?_) ?_ | ((first | refine gif_ways (fun h => ?_) (fun h => ?_) | refine cif_ways (fun h => ?_) (fun h => ?_)) <;> (try simp only [sxn] at h) <;> (try (exfalso; omega)))) <;> (try (refine wS ?_)))))
    all_goals exact kround_i (l.length - (k + 1)) (by omega) ⟨k + 1, p + x.pr, i + x.it, rfl, by omega, by omega, by omega, by omega, by omega, hnx, by exact byS, by exact byS, by exact byS, by exact byS, by exact byS⟩
  · have hr1 : sumPr l = p := by rw [hH.out.1, List.take_of_length_le (by omega)]
    have hr2 : sumIt l = i := by rw [hH.out.2, List.take_of_length_le (by omega)]
    clear hH
    (repeat' (first | exact trivial | refine stq ?_ | (refine awp_ret ?_; simp only [then_ret, block_ret, end_ret]) | ((first | refine stp ?_ | refine nqif_ways (fun h => ?_) ?_ | ((first | refine gif_ways (fun h => ?_) (fun h => ?_) | refine cif_ways (fun h => ?_) (fun h => ?_)) <;> (try simp only [sxn] at h) <;> (try (exfalso; omega)))) <;> (try (refine wS ?_)))))
    all_goals simp only [sxd, z0, p0, Nat.reduceEqDiff, ↓reduceIte, Tryz.f30, *]
theorem Total_con (l : List DueV) (hl : l.length ≤ 300) (hd : ∀ x ∈ l, 0 ≤ x.pr ∧ x.pr ≤ 1000000000000 ∧ 0 ≤ x.it ∧ x.it ≤ 1000000000000) : Con Tryz.prog CtxP 11 [.sl (duesC l)] (.val (.tup [.ex (.int .i64 (sumPr l)), .ex (.int .i64 (sumIt l))])) := by
  have q1 := dues_len l
  replace hd := Lib.hid hd
  refine con_val base Tryz.func11 rfl rfl (by kernel_rfl) (Nat.le_of_ble_eq_true rfl) ?_
  rw [init_eq]
  (repeat' (first | exact trivial | refine stq ?_ | (refine awp_ret ?_; simp only [then_ret, block_ret, end_ret]) | ((first | refine stp ?_ | refine nqif_ways (fun h => ?_) ?_ | ((first | refine gif_ways (fun h => ?_) (fun h => ?_) | refine cif_ways (fun h => ?_) (fun h => ?_)) <;> (try simp only [sxn] at h) <;> (try (exfalso; omega)))) <;> (try (refine wS ?_)))))
  refine vloop (fun n tm hp nx => ∃ (k : Nat) (p i : Int), n = l.length - k ∧ k ≤ l.length ∧ 0 ≤ p ∧ p ≤ k * 1000000000000 ∧ 0 ≤ i ∧ i ≤ k * 1000000000000 ∧ Hid (p = sumPr (l.take k) ∧ i = sumIt (l.take k)) ∧ tm 8 = .sl (duesC l) ∧ tm 9 = .ex (.int .i64 l.length) ∧ tm 10 = .ex (.int .i64 k) ∧ tm 4 = .ex (.int .i64 p) ∧ tm 5 = .ex (.int .i64 i)) l.length ⟨0, 0, 0, rfl, Nat.zero_le _, by omega, by omega, by omega, by omega, Lib.hid ⟨rfl, rfl⟩, by exact byS, by exact byS, by exact byS, by exact byS, by exact byS⟩ ?_
  rintro n tm hp nx ⟨k, p, i, rfl, hk, p0, p1, i0, i1, hH, g8, g9, g10, g4, g5⟩
  by_cases hlt : k < l.length
  · have e0 : l[k]? = some l[k] := List.getElem?_eq_getElem hlt
    have hx := hd.out _ (List.getElem_mem hlt)
    generalize l[k] = x at e0 hx
    have q4 := dues_get e0
    obtain ⟨x1, x2, x3, x4⟩ := hx
    have hnx := Lib.hid (show p + x.pr = sumPr (l.take (k + 1)) ∧ i + x.it = sumIt (l.take (k + 1)) from ⟨by rw [sumPr_next e0, hH.out.1], by rw [sumIt_next e0, hH.out.2]⟩)
    clear e0 hH
    (repeat' (first | exact trivial | refine stq ?_ | (refine awp_ret ?_; simp only [then_ret, block_ret, end_ret]) | ((first | refine stp ?_ | refine nqif_ways (fun h => ?_) ?_ | ((first | refine gif_ways (fun h => ?_) (fun h => ?_) | refine cif_ways (fun h => ?_) (fun h => ?_)) <;> (try simp only [sxn] at h) <;> (try (exfalso; omega)))) <;> (try (refine wS ?_)))))
    all_goals exact kround_i (l.length - (k + 1)) (by omega) ⟨k + 1, p + x.pr, i + x.it, rfl, by omega, by omega, by omega, by omega, by omega, hnx, by exact byS, by exact byS, by exact byS, by exact byS, by exact byS⟩
  · have hr1 : sumPr l = p := by rw [hH.out.1, List.take_of_length_le (by omega)]
    have hr2 : sumIt l = i := by rw [hH.out.2, List.take_of_length_le (by omega)]
    clear hH
    (repeat' (first | exact trivial | refine stq ?_ | (refine awp_ret ?_; simp only [then_ret, block_ret, end_ret]) | ((first | refine stp ?_ | refine nqif_ways (fun h => ?_) ?_ | ((first | refine gif_ways (fun h => ?_) (fun h => ?_) | refine cif_ways (fun h => ?_) (fun h => ?_)) <;> (try simp only [sxn] at h) <;> (try (exfalso; omega)))) <;> (try (refine wS ?_)))))
    all_goals simp only [sxd, z0, p0, Nat.reduceEqDiff, ↓reduceIte, Tryz.f11, *]
theorem lday_con (x : Int) : Con Tryz.prog CtxP 23 [.ex (.int .i64 x)] (.val (.ex (.bool (!outB 0 73048 x)))) := by
  refine con_val base Tryz.func23 rfl rfl (by kernel_rfl) (Nat.le_of_ble_eq_true rfl) ?_
  rw [init_eq]
  (repeat' (first | exact trivial | refine stq ?_ | (refine awp_ret ?_; simp only [then_ret, block_ret, end_ret]) | ((first | refine stp ?_ | refine nqif_ways (fun h => ?_) ?_ | ((first | refine gif_ways (fun h => ?_) (fun h => ?_) | refine cif_ways (fun h => ?_) (fun h => ?_)) <;> (try simp only [sxn] at h) <;> (try (exfalso; omega)))) <;> (try (refine wS ?_)))))
  all_goals (try simp only [sxd, z0, p0, Nat.reduceEqDiff, ↓reduceIte, Tryz.f23])
  all_goals (unfold outB; rw [Bool.eq_iff_iff]; simp <;> omega)
theorem lrate_con (x : Int) : Con Tryz.prog CtxP 99 [.ex (.int .i64 x)] (.val (.ex (.bool (!outB 0 1000000 x)))) := by
  refine con_val base Tryz.func99 rfl rfl (by kernel_rfl) (Nat.le_of_ble_eq_true rfl) ?_
  rw [init_eq]
  (repeat' (first | exact trivial | refine stq ?_ | (refine awp_ret ?_; simp only [then_ret, block_ret, end_ret]) | ((first | refine stp ?_ | refine nqif_ways (fun h => ?_) ?_ | ((first | refine gif_ways (fun h => ?_) (fun h => ?_) | refine cif_ways (fun h => ?_) (fun h => ?_)) <;> (try simp only [sxn] at h) <;> (try (exfalso; omega)))) <;> (try (refine wS ?_)))))
  all_goals (try simp only [sxd, z0, p0, Nat.reduceEqDiff, ↓reduceIte, Tryz.f99])
  all_goals (unfold outB; rw [Bool.eq_iff_iff]; simp <;> omega)
theorem lamount_con (x : Int) : Con Tryz.prog CtxP 100 [.ex (.int .i64 x)] (.val (.ex (.bool (!outB 0 1000000000000 x)))) := by
  refine con_val base Tryz.func100 rfl rfl (by kernel_rfl) (Nat.le_of_ble_eq_true rfl) ?_
  rw [init_eq]
  (repeat' (first | exact trivial | refine stq ?_ | (refine awp_ret ?_; simp only [then_ret, block_ret, end_ret]) | ((first | refine stp ?_ | refine nqif_ways (fun h => ?_) ?_ | ((first | refine gif_ways (fun h => ?_) (fun h => ?_) | refine cif_ways (fun h => ?_) (fun h => ?_)) <;> (try simp only [sxn] at h) <;> (try (exfalso; omega)))) <;> (try (refine wS ?_)))))
  all_goals (try simp only [sxd, z0, p0, Nat.reduceEqDiff, ↓reduceIte, Tryz.f100])
  all_goals (unfold outB; rw [Bool.eq_iff_iff]; simp <;> omega)
structure Duly (l : List DueV) : Prop where
  len : 1 ≤ l.length ∧ l.length ≤ 120
  s : Sched l
theorem Duly.d4 {l : List DueV} (h : Duly l) : ∀ x ∈ l, 0 ≤ x.pr ∧ x.pr ≤ 1000000000000 ∧ 0 ≤ x.it ∧ x.it ≤ 1000000000000 := fun x hx => by
  have := h.s.pos x hx
  exact ⟨this.1, this.2.1, this.2.2.1, this.2.2.2.1⟩
theorem numbers1_con (d : DueV) (h : 0 ≤ d.pr ∧ d.pr ≤ 1000000000000 ∧ 0 ≤ d.it ∧ d.it ≤ 1000000000000 ∧ 0 ≤ d.day ∧ d.day ≤ 73048) : Con Tryz.prog CtxP 102 [.agg [.ex (.int .i64 d.no), .ex (.int .i64 d.day), .ex (.int .i64 d.pr), .ex (.int .i64 d.it)]] (.val (.ex (.bool false))) := by
  have a1 := lday_con d.day
  rw [outB_no h.2.2.2.2.1 h.2.2.2.2.2] at a1
  have a2 := lamount_con d.pr
  rw [outB_no h.1 h.2.1] at a2
  have a3 := lamount_con d.it
  rw [outB_no h.2.2.1 h.2.2.2.1] at a3
  clear h
  refine con_val base Tryz.func102 rfl rfl (by kernel_rfl) (Nat.le_of_ble_eq_true rfl) ?_
  rw [init_eq]
  (repeat' (first | exact trivial | refine stq ?_ | (refine awp_ret ?_; simp only [then_ret, block_ret, end_ret]) | ((first | refine cv (a1) ?_ | refine cv (a2) ?_ | refine cv (a3) ?_ | refine stp ?_ | refine nqif_ways (fun h => ?_) ?_ | ((first | refine gif_ways (fun h => ?_) (fun h => ?_) | refine cif_ways (fun h => ?_) (fun h => ?_)) <;> (try simp only [sxn] at h) <;> (try (exfalso; omega)))) <;> (try (refine wS ?_)))))
  all_goals simp only [sxd, z0, p0, Nat.reduceEqDiff, ↓reduceIte, Tryz.f102, *]
theorem IndexD_con (l : List DueV) (hj : l.length ≤ 300) (f : Nat) (hcl : ∀ d : DueV, d ∈ l → Con Tryz.prog CtxP f [.agg [.ex (.int .i64 d.no), .ex (.int .i64 d.day), .ex (.int .i64 d.pr), .ex (.int .i64 d.it)]] (.val (.ex (.bool false)))) : Con Tryz.prog CtxP 150 [.sl (duesC l), .ex (.func (.func f) #[] #[])] (.val (.ex (.int .i64 (-1)))) := by
  refine con_val base Tryz.func150 rfl rfl (by kernel_rfl) (Nat.le_of_ble_eq_true rfl) ?_
  rw [init_eq]
  have q1 := dues_len l
  have hcl := Lib.hid hcl
  (repeat' (first | exact trivial | refine stq ?_ | (refine awp_ret ?_; simp only [then_ret, block_ret, end_ret]) | ((first | refine stp ?_ | refine nqif_ways (fun h => ?_) ?_ | ((first | refine gif_ways (fun h => ?_) (fun h => ?_) | refine cif_ways (fun h => ?_) (fun h => ?_)) <;> (try simp only [sxn] at h) <;> (try (exfalso; omega)))) <;> (try (refine wS ?_)))))
  refine vloop (fun n tm hp nx => ∃ k : Nat, n = l.length - k ∧ k ≤ l.length ∧ tm 0 = .sl (duesC l) ∧ tm 1 = .ex (.func (.func f) #[] #[]) ∧ tm 7 = .ex (.int .i64 l.length) ∧ tm 8 = .ex (.int .i64 k)) l.length ⟨0, rfl, Nat.zero_le _, by exact byS, by exact byS, by exact byS, by exact byS⟩ ?_
  rintro n tm hp nx ⟨k, hn, hk, g0, g1, g7, g8⟩
  by_cases hlt : k < l.length
  · have e0 : l[k]? = some l[k] := List.getElem?_eq_getElem hlt
    have hc := hcl.out _ (List.getElem_mem hlt)
    generalize l[k] = x at e0 hc
    have q4 := dues_get e0
    clear e0
    (repeat' (first | exact trivial | refine stq ?_ | (refine awp_ret ?_; simp only [then_ret, block_ret, end_ret]) | ((first | refine cv (hc) ?_ | refine stp ?_ | refine nqif_ways (fun h => ?_) ?_ | ((first | refine gif_ways (fun h => ?_) (fun h => ?_) | refine cif_ways (fun h => ?_) (fun h => ?_)) <;> (try simp only [sxn] at h) <;> (try (exfalso; omega)))) <;> (try (refine wS ?_)))))
    exact kround_i (l.length - (k + 1)) (by omega) ⟨k + 1, rfl, by omega, by exact byS, by exact byS, by exact byS, by exact byS⟩
  · (repeat' (first | exact trivial | refine stq ?_ | (refine awp_ret ?_; simp only [then_ret, block_ret, end_ret]) | ((first | refine stp ?_ | refine nqif_ways (fun h => ?_) ?_ | ((first | refine gif_ways (fun h => ?_) (fun h => ?_) | refine cif_ways (fun h => ?_) (fun h => ?_)) <;> (try simp only [sxn] at h) <;> (try (exfalso; omega)))) <;> (try (refine wS ?_)))))
    all_goals simp only [sxd, z0, p0, Nat.reduceEqDiff, ↓reduceIte, Tryz.f150, *]
theorem ContainsD_con (l : List DueV) (hj : l.length ≤ 300) (hcl : ∀ d : DueV, d ∈ l → Con Tryz.prog CtxP 102 [.agg [.ex (.int .i64 d.no), .ex (.int .i64 d.day), .ex (.int .i64 d.pr), .ex (.int .i64 d.it)]] (.val (.ex (.bool false)))) : Con Tryz.prog CtxP 101 [.sl (duesC l), .ex (.func (.func 102) #[] #[])] (.val (.ex (.bool false))) := by
  have a1 := IndexD_con l hj 102 hcl
  refine con_val base Tryz.func101 rfl rfl (by kernel_rfl) (Nat.le_of_ble_eq_true rfl) ?_
  rw [init_eq]
  (repeat' (first | exact trivial | refine stq ?_ | (refine awp_ret ?_; simp only [then_ret, block_ret, end_ret]) | ((first | refine cv (a1) ?_ | refine stp ?_ | refine nqif_ways (fun h => ?_) ?_ | ((first | refine gif_ways (fun h => ?_) (fun h => ?_) | refine cif_ways (fun h => ?_) (fun h => ?_)) <;> (try simp only [sxn] at h) <;> (try (exfalso; omega)))) <;> (try (refine wS ?_)))))
  all_goals simp only [sxd, z0, p0, Nat.reduceEqDiff, ↓reduceIte, Tryz.f101, *]
theorem ordered_con (l : List DueV) (h : Duly l) : Con Tryz.prog CtxP 62 [.sl (duesC l)] (.val (.ex (.bool true))) := by
  have q1 := dues_len l
  have hl := h.len
  obtain ⟨hl1, hl2⟩ := hl
  have hno := Lib.hid h.s.no
  have hor := Lib.hid h.s.ord
  clear h
  refine con_val base Tryz.func62 rfl rfl (by kernel_rfl) (Nat.le_of_ble_eq_true rfl) ?_
  rw [init_eq]
  (repeat' (first | exact trivial | refine stq ?_ | (refine awp_ret ?_; simp only [then_ret, block_ret, end_ret]) | ((first | refine stp ?_ | refine nqif_ways (fun h => ?_) ?_ | ((first | refine gif_ways (fun h => ?_) (fun h => ?_) | refine cif_ways (fun h => ?_) (fun h => ?_)) <;> (try simp only [sxn] at h) <;> (try (exfalso; omega)))) <;> (try (refine wS ?_)))))
  refine vloop (fun n tm hp nx => ∃ k : Nat, n = l.length - k ∧ k ≤ l.length ∧ tm 0 = .sl (duesC l) ∧ tm 5 = .sl (duesC l) ∧ tm 6 = .ex (.int .i64 l.length) ∧ tm 7 = .ex (.int .i64 k)) l.length ⟨0, rfl, Nat.zero_le _, by exact byS, by exact byS, by exact byS, by exact byS⟩ ?_
  rintro n tm hp nx ⟨k, hn, hk, g0, g5, g6, g7⟩
  by_cases hlt : k < l.length
  · have e0 : l[k]? = some l[k] := List.getElem?_eq_getElem hlt
    generalize l[k] = x at e0
    have q4 := dues_get e0
    have n1 := hno.out k x e0
    rcases Nat.eq_zero_or_pos k with h0 | h0
    · subst h0
      have g8 : tm 7 = .ex (.int .i64 0) := g7
      have n2 : x.no = 1 := by omega
      clear g7 e0
      (repeat' (first | exact trivial | refine stq ?_ | (refine awp_ret ?_; simp only [then_ret, block_ret, end_ret]) | ((first | refine stp ?_ | refine nqif_ways (fun h => ?_) ?_ | ((first | refine gif_ways (fun h => ?_) (fun h => ?_) | refine cif_ways (fun h => ?_) (fun h => ?_)) <;> (try simp only [sxn] at h) <;> (try (exfalso; omega)))) <;> (try (refine wS ?_)))))
      all_goals exact kround_i (l.length - (0 + 1)) (by omega) ⟨0 + 1, rfl, by omega, by exact byS, by exact byS, by exact byS, by exact byS⟩
    · have e1 : l[k - 1]? = some l[k - 1] := List.getElem?_eq_getElem (by omega)
      generalize l[k - 1] = y at e1
      have q5 := dues_get e1
      have q6 : ((k : Int) - 1).toNat = k - 1 := by omega
      have n2 := hor.out (k - 1) k y x (by omega) e1 e0
      have n3 : ¬ x.day < y.day := by omega
      have k0 : 0 < (k : Int) := by omega
      clear e0 e1
      (repeat' (first | exact trivial | refine stq ?_ | (refine awp_ret ?_; simp only [then_ret, block_ret, end_ret]) | ((first | refine stp ?_ | refine nqif_ways (fun h => ?_) ?_ | ((first | refine gif_ways (fun h => ?_) (fun h => ?_) | refine cif_ways (fun h => ?_) (fun h => ?_)) <;> (try simp only [sxn] at h) <;> (try (exfalso; omega)))) <;> (try (refine wS ?_)))))
      all_goals exact kround_i (l.length - (k + 1)) (by omega) ⟨k + 1, rfl, by omega, by exact byS, by exact byS, by exact byS, by exact byS⟩
  · (repeat' (first | exact trivial | refine stq ?_ | (refine awp_ret ?_; simp only [then_ret, block_ret, end_ret]) | ((first | refine stp ?_ | refine nqif_ways (fun h => ?_) ?_ | ((first | refine gif_ways (fun h => ?_) (fun h => ?_) | refine cif_ways (fun h => ?_) (fun h => ?_)) <;> (try simp only [sxn] at h) <;> (try (exfalso; omega)))) <;> (try (refine wS ?_)))))
    all_goals simp only [sxd, z0, p0, Nat.reduceEqDiff, ↓reduceIte, Tryz.f62, *]
theorem left_con (l : LoanV) (h : Duly l.dues) (f0 : l.fee = 0) (f1 : l.pen = 0) : Con Tryz.prog CtxP 27 [.agg [.ex (.int .i64 l.id), .ex (.int .i64 l.acc), .ex (.int .i64 l.st), .ex (.int .i64 l.pp), .ex (.int .i64 l.pit), .ex (.int .i64 l.fee), .ex (.int .i64 l.pen), .ex (.int .i64 l.chg), .ex (.int .i64 l.prov), .ex (.int .i64 l.loss), .ex (.int .i64 l.recd), .ex (.int .i64 l.t.method), .ex (.int .i64 l.t.prin), .ex (.int .i64 l.t.ppm), .ex (.int .i64 l.t.start), .ex (.int .i64 l.t.every), .ex (.int .i64 l.t.count), .ex (.int .i64 l.t.bal), .ex (.int .i64 l.t.mode), .ex (.int .i64 l.t.pen), .ex (.int .i64 l.t.fee), .ex (.string l.t.cal), .ex (.string l.t.cur), .sl (duesC l.dues), .sl []]] (.val (.ex (.bool (!(decide (l.pp = sumPr l.dues) && decide (l.pit = sumIt l.dues)))))) := by
  have a1 := sums_con l.dues (by have := h.len; omega) h.d4
  clear h
  generalize sumPr l.dues = P at *
  generalize sumIt l.dues = I at *
  by_cases c1 : l.pp = P
  · have d1 : decide (l.pp = P) = true := decide_eq_true c1
    by_cases c2 : l.pit = I
    · have d2 : decide (l.pit = I) = true := decide_eq_true c2
      (refine con_val base Tryz.func27 rfl rfl (by kernel_rfl) (Nat.le_of_ble_eq_true rfl) ?_; rw [init_eq])
      (repeat' (first | exact trivial | refine stq ?_ | (refine awp_ret ?_; simp only [then_ret, block_ret, end_ret]) | ((first | refine cv (a1) ?_ | refine stp ?_ | refine nqif_ways (fun h => ?_) ?_ | ((first | refine gif_ways (fun h => ?_) (fun h => ?_) | refine cif_ways (fun h => ?_) (fun h => ?_)) <;> (try simp only [sxn] at h) <;> (try (exfalso; omega)))) <;> (try (refine wS ?_)))))
      all_goals simp only [sxd, z0, p0, Nat.reduceEqDiff, ↓reduceIte, Tryz.f27, *]
      all_goals simp_all
    · have d2 : decide (l.pit = I) = false := decide_eq_false c2
      (refine con_val base Tryz.func27 rfl rfl (by kernel_rfl) (Nat.le_of_ble_eq_true rfl) ?_; rw [init_eq])
      (repeat' (first | exact trivial | refine stq ?_ | (refine awp_ret ?_; simp only [then_ret, block_ret, end_ret]) | ((first | refine cv (a1) ?_ | refine stp ?_ | refine nqif_ways (fun h => ?_) ?_ | ((first | refine gif_ways (fun h => ?_) (fun h => ?_) | refine cif_ways (fun h => ?_) (fun h => ?_)) <;> (try simp only [sxn] at h) <;> (try (exfalso; omega)))) <;> (try (refine wS ?_)))))
      all_goals simp only [sxd, z0, p0, Nat.reduceEqDiff, ↓reduceIte, Tryz.f27, *]
      all_goals simp_all
  · have d1 : decide (l.pp = P) = false := decide_eq_false c1
    (refine con_val base Tryz.func27 rfl rfl (by kernel_rfl) (Nat.le_of_ble_eq_true rfl) ?_; rw [init_eq])
    (repeat' (first | exact trivial | refine stq ?_ | (refine awp_ret ?_; simp only [then_ret, block_ret, end_ret]) | ((first | refine cv (a1) ?_ | refine stp ?_ | refine nqif_ways (fun h => ?_) ?_ | ((first | refine gif_ways (fun h => ?_) (fun h => ?_) | refine cif_ways (fun h => ?_) (fun h => ?_)) <;> (try simp only [sxn] at h) <;> (try (exfalso; omega)))) <;> (try (refine wS ?_)))))
    all_goals simp only [sxd, z0, p0, Nat.reduceEqDiff, ↓reduceIte, Tryz.f27, *]
    all_goals simp_all
theorem sum_top {l : List DueV} (h : Duly l) : 0 ≤ sumPr l ∧ sumPr l ≤ 120 * 1000000000000 ∧ 0 ≤ sumIt l ∧ sumIt l ≤ 120 * 1000000000000 := by
  have key : ∀ (k : Nat), k ≤ l.length → 0 ≤ sumPr (l.take k) ∧ sumPr (l.take k) ≤ k * 1000000000000 ∧ 0 ≤ sumIt (l.take k) ∧ sumIt (l.take k) ≤ k * 1000000000000 := by
    intro k
    induction k with
    | zero => intro _; simp [sumPr, sumIt]
    | succ k ih =>
      intro hk
      have e0 : l[k]? = some l[k] := List.getElem?_eq_getElem (by omega)
      have := ih (by omega)
      have hx := h.d4 _ (List.getElem_mem (show k < l.length by omega))
      rw [sumPr_next e0, sumIt_next e0]
      omega
  have := key l.length (Nat.le_refl _)
  rw [List.take_length] at this
  have := h.len
  omega
theorem Outstanding_con (l : LoanV) (h : Duly l.dues) (p0 : 0 ≤ l.pp) (p1 : l.pp ≤ 1000000000000000) : Con Tryz.prog CtxP 12 [.agg [.ex (.int .i64 l.id), .ex (.int .i64 l.acc), .ex (.int .i64 l.st), .ex (.int .i64 l.pp), .ex (.int .i64 l.pit), .ex (.int .i64 l.fee), .ex (.int .i64 l.pen), .ex (.int .i64 l.chg), .ex (.int .i64 l.prov), .ex (.int .i64 l.loss), .ex (.int .i64 l.recd), .ex (.int .i64 l.t.method), .ex (.int .i64 l.t.prin), .ex (.int .i64 l.t.ppm), .ex (.int .i64 l.t.start), .ex (.int .i64 l.t.every), .ex (.int .i64 l.t.count), .ex (.int .i64 l.t.bal), .ex (.int .i64 l.t.mode), .ex (.int .i64 l.t.pen), .ex (.int .i64 l.t.fee), .ex (.string l.t.cal), .ex (.string l.t.cur), .sl (duesC l.dues), .sl []]] (.val (.ex (.int .i64 (sumPr l.dues - l.pp)))) := by
  have a1 := sums_con l.dues (by have := h.len; omega) h.d4
  have s := sum_top h
  obtain ⟨s1, s2, s3, s4⟩ := s
  clear h
  generalize sumPr l.dues = P at *
  generalize sumIt l.dues = I at *
  refine con_val base Tryz.func12 rfl rfl (by kernel_rfl) (Nat.le_of_ble_eq_true rfl) ?_
  rw [init_eq]
  (repeat' (first | exact trivial | refine stq ?_ | (refine awp_ret ?_; simp only [then_ret, block_ret, end_ret]) | ((first | refine cv (a1) ?_ | refine stp ?_ | refine nqif_ways (fun h => ?_) ?_ | ((first | refine gif_ways (fun h => ?_) (fun h => ?_) | refine cif_ways (fun h => ?_) (fun h => ?_)) <;> (try simp only [sxn] at h) <;> (try (exfalso; omega)))) <;> (try (refine wS ?_)))))
  all_goals simp only [sxd, z0, p0, Nat.reduceEqDiff, ↓reduceIte, Tryz.f12, *]
end Go.Proofs.YtcoflmckbcnlpaaGreatDoor
namespace Go.Proofs.YtcoflmckbcnlpaaGreatDoor
open Go.RowKit
set_option maxRecDepth 100000
set_option linter.unusedSimpArgs false
structure LoanOk (l : LoanV) : Prop where
  id : 1 ≤ l.id
  acc : 1000 ≤ l.acc
  st : l.st = 1
  pp0 : 0 ≤ l.pp
  pp1 : l.pp ≤ sumPr l.dues
  pi0 : 0 ≤ l.pit
  pi1 : l.pit ≤ sumIt l.dues
  fee : l.fee = 0
  pen : l.pen = 0
  chg : 0 ≤ l.chg ∧ l.chg ≤ 73048
  prov : l.prov = 0
  loss : l.loss = 0
  recd : l.recd = 0
  r1 : 0 ≤ l.t.pen ∧ l.t.pen ≤ 1000000
  r2 : 0 ≤ l.t.fee ∧ l.t.fee ≤ 1000000
  d : Duly l.dues
  prin : sumPr l.dues = l.t.prin
  left : ¬ (l.pp = sumPr l.dues ∧ l.pit = sumIt l.dues)
set_option maxHeartbeats 2000000 in
theorem numbers_con (l : LoanV) (h : LoanOk l) : Con Tryz.prog CtxP 61 [.agg [.ex (.int .i64 l.id), .ex (.int .i64 l.acc), .ex (.int .i64 l.st), .ex (.int .i64 l.pp), .ex (.int .i64 l.pit), .ex (.int .i64 l.fee), .ex (.int .i64 l.pen), .ex (.int .i64 l.chg), .ex (.int .i64 l.prov), .ex (.int .i64 l.loss), .ex (.int .i64 l.recd), .ex (.int .i64 l.t.method), .ex (.int .i64 l.t.prin), .ex (.int .i64 l.t.ppm), .ex (.int .i64 l.t.start), .ex (.int .i64 l.t.every), .ex (.int .i64 l.t.count), .ex (.int .i64 l.t.bal), .ex (.int .i64 l.t.mode), .ex (.int .i64 l.t.pen), .ex (.int .i64 l.t.fee), .ex (.string l.t.cal), .ex (.string l.t.cur), .sl (duesC l.dues), .sl []]] (.val (.ex (.bool true))) := by
  have a1 := lday_con l.chg
  rw [outB_no h.chg.1 h.chg.2] at a1
  have a2 := lrate_con l.t.pen
  rw [outB_no h.r1.1 h.r1.2] at a2
  have a3 := lrate_con l.t.fee
  rw [outB_no h.r2.1 h.r2.2] at a3
  have a4 := lamount_con 0
  have e4 : outB 0 1000000000000 0 = false := by decide
  rw [e4] at a4
  have a5 := ContainsD_con l.dues (by have := h.d.len; omega) fun d hd => numbers1_con d (h.d.s.pos d hd)
  have q1 := dues_len l.dues
  obtain ⟨ln1, ln2⟩ := h.d.len
  have ln3 : ¬ (l.dues.length : Int) < 1 := by omega
  have ln4 : ¬ 240 < (l.dues.length : Int) := by omega
  have f1 : ¬ l.id < 1 := by have := h.id; omega
  have f2 : ¬ l.acc < 1000 := by have := h.acc; omega
  have f3 := h.st
  have f5 : ¬ l.pp < 0 := by have := h.pp0; omega
  have f6 : ¬ l.pit < 0 := by have := h.pi0; omega
  have f7 := h.recd
  have f8 := h.fee
  have f9 := h.pen
  have f10 := h.prov
  have f11 := h.loss
  clear h
  refine con_val base Tryz.func61 rfl rfl (by kernel_rfl) (Nat.le_of_ble_eq_true rfl) ?_
  rw [init_eq]
  (repeat' (first | exact trivial | refine stq ?_ | (refine awp_ret ?_; simp only [then_ret, block_ret, end_ret]) | ((first | refine cv (a1) ?_ | refine cv (a2) ?_ | refine cv (a3) ?_ | refine stp ?_ | refine nqif_ways (fun h => ?_) ?_ | ((first | refine gif_ways (fun h => ?_) (fun h => ?_) | refine cif_ways (fun h => ?_) (fun h => ?_)) <;> (try simp only [sxn] at h) <;> (try (exfalso; omega)))) <;> (try (refine wS ?_)))))
  refine vloop (fun n tm hp nx => ∃ (k b : Nat), n = 4 - k ∧ k ≤ 4 ∧ tm 1 = .pt b 0 0 ∧ hp b = some ⟨32, [[.ex (.int .i64 l.id), .ex (.int .i64 l.acc), .ex (.int .i64 l.st), .ex (.int .i64 l.pp), .ex (.int .i64 l.pit), .ex (.int .i64 l.fee), .ex (.int .i64 l.pen), .ex (.int .i64 l.chg), .ex (.int .i64 l.prov), .ex (.int .i64 l.loss), .ex (.int .i64 l.recd), .ex (.int .i64 l.t.method), .ex (.int .i64 l.t.prin), .ex (.int .i64 l.t.ppm), .ex (.int .i64 l.t.start), .ex (.int .i64 l.t.every), .ex (.int .i64 l.t.count), .ex (.int .i64 l.t.bal), .ex (.int .i64 l.t.mode), .ex (.int .i64 l.t.pen), .ex (.int .i64 l.t.fee), .ex (.string l.t.cal), .ex (.string l.t.cur), .sl (duesC l.dues), .sl []]], true⟩ ∧ b < nx ∧ tm 82 = .agg [.ex (.int .i64 0), .ex (.int .i64 0), .ex (.int .i64 0), .ex (.int .i64 0)] ∧ tm 83 = .ex (.int .i64 k)) 4 ⟨0, _, rfl, Nat.zero_le _, by exact byQ, by exact byQ, by omega, by exact byQ, by exact byS⟩ ?_
  rintro n tm hp nx ⟨k, b, rfl, hk, g1, gh, hb, g82, g83⟩
  clear a1 a2 a3
  by_cases hlt : k < 4
  · have hk4 : k = 0 ∨ k = 1 ∨ k = 2 ∨ k = 3 := by omega
    rcases hk4 with rfl | rfl | rfl | rfl
    · have g8 : tm 83 = .ex (.int .i64 0) := g83
      clear g83
      (repeat' (first | exact trivial | refine stq ?_ | (refine awp_ret ?_; simp only [then_ret, block_ret, end_ret]) | ((first | refine cv (a4) ?_ | refine stp ?_ | refine nqif_ways (fun h => ?_) ?_ | ((first | refine gif_ways (fun h => ?_) (fun h => ?_) | refine cif_ways (fun h => ?_) (fun h => ?_)) <;> (try simp only [sxn] at h) <;> (try (exfalso; omega)))) <;> (try (refine wS ?_)))))
      all_goals exact kround_i 3 (by omega) ⟨1, b, rfl, by omega, by exact byS, by exact byQ, by omega, by exact byS, by exact byS⟩
    · have g8 : tm 83 = .ex (.int .i64 1) := g83
      clear g83
      (repeat' (first | exact trivial | refine stq ?_ | (refine awp_ret ?_; simp only [then_ret, block_ret, end_ret]) | ((first | refine cv (a4) ?_ | refine stp ?_ | refine nqif_ways (fun h => ?_) ?_ | ((first | refine gif_ways (fun h => ?_) (fun h => ?_) | refine cif_ways (fun h => ?_) (fun h => ?_)) <;> (try simp only [sxn] at h) <;> (try (exfalso; omega)))) <;> (try (refine wS ?_)))))
      all_goals exact kround_i 2 (by omega) ⟨2, b, rfl, by omega, by exact byS, by exact byQ, by omega, by exact byS, by exact byS⟩
    · have g8 : tm 83 = .ex (.int .i64 2) := g83
      clear g83
      (repeat' (first | exact trivial | refine stq ?_ | (refine awp_ret ?_; simp only [then_ret, block_ret, end_ret]) | ((first | refine cv (a4) ?_ | refine stp ?_ | refine nqif_ways (fun h => ?_) ?_ | ((first | refine gif_ways (fun h => ?_) (fun h => ?_) | refine cif_ways (fun h => ?_) (fun h => ?_)) <;> (try simp only [sxn] at h) <;> (try (exfalso; omega)))) <;> (try (refine wS ?_)))))
      all_goals exact kround_i 1 (by omega) ⟨3, b, rfl, by omega, by exact byS, by exact byQ, by omega, by exact byS, by exact byS⟩
    · have g8 : tm 83 = .ex (.int .i64 3) := g83
      clear g83
      (repeat' (first | exact trivial | refine stq ?_ | (refine awp_ret ?_; simp only [then_ret, block_ret, end_ret]) | ((first | refine cv (a4) ?_ | refine stp ?_ | refine nqif_ways (fun h => ?_) ?_ | ((first | refine gif_ways (fun h => ?_) (fun h => ?_) | refine cif_ways (fun h => ?_) (fun h => ?_)) <;> (try simp only [sxn] at h) <;> (try (exfalso; omega)))) <;> (try (refine wS ?_)))))
      all_goals exact kround_i 0 (by omega) ⟨4, b, rfl, by omega, by exact byS, by exact byQ, by omega, by exact byS, by exact byS⟩
  · have hk4 : k = 4 := by omega
    subst hk4
    have g8 : tm 83 = .ex (.int .i64 4) := g83
    clear g83
    (repeat' (first | exact trivial | refine stq ?_ | (refine awp_ret ?_; simp only [then_ret, block_ret, end_ret]) | ((first | refine cv (a5) ?_ | refine stp ?_ | refine nqif_ways (fun h => ?_) ?_ | ((first | refine gif_ways (fun h => ?_) (fun h => ?_) | refine cif_ways (fun h => ?_) (fun h => ?_)) <;> (try simp only [sxn] at h) <;> (try (exfalso; omega)))) <;> (try (refine wS ?_)))))
    all_goals simp only [sxd, z0, p0, Nat.reduceEqDiff, ↓reduceIte, Tryz.f61, *]
set_option maxHeartbeats 2000000 in
theorem LCheck_con (l : LoanV) (h : LoanOk l) : Con Tryz.prog CtxP 22 [.agg [.ex (.int .i64 l.id), .ex (.int .i64 l.acc), .ex (.int .i64 l.st), .ex (.int .i64 l.pp), .ex (.int .i64 l.pit), .ex (.int .i64 l.fee), .ex (.int .i64 l.pen), .ex (.int .i64 l.chg), .ex (.int .i64 l.prov), .ex (.int .i64 l.loss), .ex (.int .i64 l.recd), .ex (.int .i64 l.t.method), .ex (.int .i64 l.t.prin), .ex (.int .i64 l.t.ppm), .ex (.int .i64 l.t.start), .ex (.int .i64 l.t.every), .ex (.int .i64 l.t.count), .ex (.int .i64 l.t.bal), .ex (.int .i64 l.t.mode), .ex (.int .i64 l.t.pen), .ex (.int .i64 l.t.fee), .ex (.string l.t.cal), .ex (.string l.t.cur), .sl (duesC l.dues), .sl []]] (.val (.ex (.int .i64 0))) := by
  have a1 := numbers_con l h
  have a2 := ordered_con l.dues h.d
  have a3 := sums_con l.dues (by have := h.d.len; omega) h.d.d4
  have a4 := left_con l h.d h.fee h.pen
  have hlf : (!(decide (l.pp = sumPr l.dues) && decide (l.pit = sumIt l.dues))) = true := by
    have := h.left
    rw [Bool.not_eq_true', Bool.and_eq_false_iff, decide_eq_false_iff_not, decide_eq_false_iff_not]
    omega
  rw [hlf] at a4
  have f1 : ¬ sumPr l.dues < l.pp := by have := h.pp1; omega
  have f2 : ¬ sumIt l.dues < l.pit := by have := h.pi1; omega
  have f3 := h.st
  have f7 := h.recd
  have f11 := h.loss
  have f12 := h.prin
  clear h hlf
  generalize sumPr l.dues = P at *
  generalize sumIt l.dues = I at *
  subst f12
  refine con_val base Tryz.func22 rfl rfl (by kernel_rfl) (Nat.le_of_ble_eq_true rfl) ?_
  rw [init_eq]
  (repeat' (first | exact trivial | refine stq ?_ | (refine awp_ret ?_; simp only [then_ret, block_ret, end_ret]) | ((first | refine cv (a1) ?_ | refine cv (a2) ?_ | refine cv (a3) ?_ | refine cv (a4) ?_ | refine stp ?_ | refine nqif_ways (fun h => ?_) ?_ | ((first | refine gif_ways (fun h => ?_) (fun h => ?_) | refine cif_ways (fun h => ?_) (fun h => ?_)) <;> (try simp only [sxn] at h) <;> (try (exfalso; omega)))) <;> (try (refine wS ?_)))))
  all_goals simp only [sxd, z0, p0, Nat.reduceEqDiff, ↓reduceIte, Tryz.f22, *]
end Go.Proofs.YtcoflmckbcnlpaaGreatDoor
namespace Go.Proofs.YtcoflmckbcnlpaaGreatDoor
open Go.RowKit
set_option maxRecDepth 100000
set_option linter.unusedSimpArgs false
def zeroT : TermV := ⟨0, 0, 0, 0, 0, 0, 0, 0, 0, 0, ⟨#[]⟩, ⟨#[]⟩⟩
def zeroLn : LoanV := ⟨0, 0, 0, 0, 0, 0, 0, 0, 0, 0, 0, zeroT, []⟩
theorem Disburse_con {t : TermV} {c : CalV} {R : List DueV} {E : Int} (a1 : Con Tryz.prog CtxP 7 [.agg [.ex (.int .i64 t.method), .ex (.int .i64 t.prin), .ex (.int .i64 t.ppm), .ex (.int .i64 t.start), .ex (.int .i64 t.every), .ex (.int .i64 t.count), .ex (.int .i64 t.bal), .ex (.int .i64 t.mode), .ex (.int .i64 t.pen), .ex (.int .i64 t.fee), .ex (.string t.cal), .ex (.string t.cur)], .agg [.ex (.string c.name), .sl (intsC c.we), .sl (intsC c.ho)]] (.val (.tup [.sl (duesC R), .ex (.int .i64 E)]))) {l : LoanV} (hl : (E = 0 ∧ l = ⟨7, 1000, 1, 0, 0, 0, 0, t.start, 0, 0, 0, t, R⟩) ∨ (E ≠ 0 ∧ l = zeroLn)) :
    Con Tryz.prog CtxP 6 [.ex (.int .i64 7), .ex (.int .i64 1000), .agg [.ex (.int .i64 t.method), .ex (.int .i64 t.prin), .ex (.int .i64 t.ppm), .ex (.int .i64 t.start), .ex (.int .i64 t.every), .ex (.int .i64 t.count), .ex (.int .i64 t.bal), .ex (.int .i64 t.mode), .ex (.int .i64 t.pen), .ex (.int .i64 t.fee), .ex (.string t.cal), .ex (.string t.cur)], .agg [.ex (.string c.name), .sl (intsC c.we), .sl (intsC c.ho)]] (.val (.tup [.agg [.ex (.int .i64 l.id), .ex (.int .i64 l.acc), .ex (.int .i64 l.st), .ex (.int .i64 l.pp), .ex (.int .i64 l.pit), .ex (.int .i64 l.fee), .ex (.int .i64 l.pen), .ex (.int .i64 l.chg), .ex (.int .i64 l.prov), .ex (.int .i64 l.loss), .ex (.int .i64 l.recd), .ex (.int .i64 l.t.method), .ex (.int .i64 l.t.prin), .ex (.int .i64 l.t.ppm), .ex (.int .i64 l.t.start), .ex (.int .i64 l.t.every), .ex (.int .i64 l.t.count), .ex (.int .i64 l.t.bal), .ex (.int .i64 l.t.mode), .ex (.int .i64 l.t.pen), .ex (.int .i64 l.t.fee), .ex (.string l.t.cal), .ex (.string l.t.cur), .sl (duesC l.dues), .sl []], .ex (.int .i64 E)])) := by
  rcases hl with ⟨rfl, rfl⟩ | ⟨hE, rfl⟩
  · (refine con_val base Tryz.func6 rfl rfl (by kernel_rfl) (Nat.le_of_ble_eq_true rfl) ?_; rw [init_eq])
    (repeat' (first | exact trivial | refine stq ?_ | (refine awp_ret ?_; simp only [then_ret, block_ret, end_ret]) | ((first | refine cv (a1) ?_ | refine stp ?_ | refine nqif_ways (fun h => ?_) ?_ | ((first | refine gif_ways (fun h => ?_) (fun h => ?_) | refine cif_ways (fun h => ?_) (fun h => ?_)) <;> (try simp only [sxn] at h) <;> (try (exfalso; omega)))) <;> (try (simp (maxSteps := 4000000) (disch := omega) only [sx, Value.oneCell', ↓reduceIte, Nat.reduceAdd, Nat.reduceMul, Nat.reduceEqDiff, Nat.reduceLT, Nat.reduceLeDiff, Int.reduceToNat, Int.reduceEq, Int.reduceLT, Int.reduceLE, Int.reduceNe, *])))))
    all_goals (refine rc3 rfl ?_)
    all_goals rfl
  · (refine con_val base Tryz.func6 rfl rfl (by kernel_rfl) (Nat.le_of_ble_eq_true rfl) ?_; rw [init_eq])
    (repeat' (first | exact trivial | refine stq ?_ | (refine awp_ret ?_; simp only [then_ret, block_ret, end_ret]) | ((first | refine cv (a1) ?_ | refine stp ?_ | refine nqif_ways (fun h => ?_) ?_ | ((first | refine gif_ways (fun h => ?_) (fun h => ?_) | refine cif_ways (fun h => ?_) (fun h => ?_)) <;> (try simp only [sxn] at h) <;> (try (exfalso; omega)))) <;> (try (simp (maxSteps := 4000000) (disch := omega) only [sx, Value.oneCell', ↓reduceIte, Nat.reduceAdd, Nat.reduceMul, Nat.reduceEqDiff, Nat.reduceLT, Nat.reduceLeDiff, Int.reduceToNat, Int.reduceEq, Int.reduceLT, Int.reduceLE, Int.reduceNe, *])))))
    all_goals (refine rc3 rfl ?_)
    all_goals rfl
end Go.Proofs.YtcoflmckbcnlpaaGreatDoor
namespace Go.Proofs.YtcoflmckbcnlpaaGreatDoor
open Go.RowKit
set_option maxRecDepth 100000
set_option linter.unusedSimpArgs false
def partC (p : Int × Int) : List AV := [.ex (.int .i64 p.1), .ex (.int .i64 p.2)]
def partsC (l : List (Int × Int)) : List (List AV) := l.map partC
theorem parts_len (l : List (Int × Int)) : (partsC l).length = l.length := by simp [partsC]
theorem parts_get {l : List (Int × Int)} {k : Nat} {p : Int × Int} (h : l[k]? = some p) : (partsC l)[k]? = some [.ex (.int .i64 p.1), .ex (.int .i64 p.2)] := by rw [partsC, List.getElem?_map, h]; rfl
theorem kind_next {l : List (Int × Int)} {k : Nat} {p : Int × Int} {v : Int} (e : l[k]? = some p) : kindL (l.take (k + 1)) v = kindL (l.take k) v + (if p.1 = v then p.2 else 0) := by
  unfold kindL
  rw [List.take_add_one, e, List.filter_append, List.map_append, List.sum_append]
  congr 1
  by_cases h : p.1 = v <;> simp [h]
theorem kind_con (l : List (Int × Int)) (v : Int) (hl : l.length ≤ 10) (hp : ∀ p ∈ l, 0 ≤ p.2 ∧ p.2 ≤ 1000000000000) : Con Tryz.prog CtxP 9 [.sl (partsC l), .ex (.int .i64 v)] (.val (.ex (.int .i64 (kindL l v)))) := by
  have q1 := parts_len l
  replace hp := Lib.hid hp
  refine con_val base Tryz.func9 rfl rfl (by kernel_rfl) (Nat.le_of_ble_eq_true rfl) ?_
  rw [init_eq]
  (repeat' (first | exact trivial | refine stq ?_ | (refine awp_ret ?_; simp only [then_ret, block_ret, end_ret]) | ((first | refine stp ?_ | refine nqif_ways (fun h => ?_) ?_ | ((first | refine gif_ways (fun h => ?_) (fun h => ?_) | refine cif_ways (fun h => ?_) (fun h => ?_)) <;> (try simp only [sxn] at h) <;> (try (exfalso; omega)))) <;> (try (refine wS ?_)))))
  refine vloop (fun n tm hp nx => ∃ (k : Nat) (s : Int), n = l.length - k ∧ k ≤ l.length ∧ 0 ≤ s ∧ s ≤ k * 1000000000000 ∧ Hid (s = kindL (l.take k) v) ∧ tm 0 = .sl (partsC l) ∧ tm 1 = .ex (.int .i64 v) ∧ tm 5 = .ex (.int .i64 s) ∧ tm 6 = .ex (.int .i64 k)) l.length ⟨0, 0, rfl, Nat.zero_le _, by omega, by omega, Lib.hid rfl, by exact byS, by exact byS, by exact byS, by exact byS⟩ ?_
  rintro n tm hpp nx ⟨k, s, rfl, hk, s0, s1, hH, g0, g1, g5, g6⟩
  by_cases hlt : k < l.length
  · have e0 : l[k]? = some l[k] := List.getElem?_eq_getElem hlt
    have hx := hp.out _ (List.getElem_mem hlt)
    generalize l[k] = x at e0 hx
    have q4 := parts_get e0
    obtain ⟨x1, x2⟩ := hx
    have hlt' : (k : Int) < l.length := by omega
    have hn := kind_next (v := v) e0
    rw [← hH.out] at hn
    by_cases hv : x.1 = v
    · rw [if_pos hv] at hn
      replace hn := Lib.hid hn.symm
      have hd : decide (x.1 = v) = true := decide_eq_true hv
      clear e0 hH hv
      (repeat' (first | exact trivial | refine stq ?_ | (refine awp_ret ?_; simp only [then_ret, block_ret, end_ret]) | ((first | refine stp ?_ | refine nqif_ways (fun h => ?_) ?_ | ((first | refine gif_ways (fun h => ?_) (fun h => ?_) | refine cif_ways (fun h => ?_) (fun h => ?_)) <;> (try simp only [sxn] at h) <;> (try (exfalso; omega)))) <;> (try (refine wS ?_)))))
      all_goals exact kround_i (l.length - (k + 1)) (by omega) ⟨k + 1, s + x.2, rfl, by omega, by omega, by omega, hn, by exact byS, by exact byS, by exact byS, by exact byS⟩
    · rw [if_neg hv, Int.add_zero] at hn
      replace hn := Lib.hid hn.symm
      have hd : decide (x.1 = v) = false := decide_eq_false hv
      clear e0 hH hv
      (repeat' (first | exact trivial | refine stq ?_ | (refine awp_ret ?_; simp only [then_ret, block_ret, end_ret]) | ((first | refine stp ?_ | refine nqif_ways (fun h => ?_) ?_ | ((first | refine gif_ways (fun h => ?_) (fun h => ?_) | refine cif_ways (fun h => ?_) (fun h => ?_)) <;> (try simp only [sxn] at h) <;> (try (exfalso; omega)))) <;> (try (refine wS ?_)))))
      all_goals exact kround_i (l.length - (k + 1)) (by omega) ⟨k + 1, s, rfl, by omega, by omega, by omega, hn, by exact byS, by exact byS, by exact byS, by exact byS⟩
  · have hr : kindL l v = s := by rw [hH.out, List.take_of_length_le (by omega)]
    have hlt' : ¬ (k : Int) < l.length := by omega
    clear hH
    (repeat' (first | exact trivial | refine stq ?_ | (refine awp_ret ?_; simp only [then_ret, block_ret, end_ret]) | ((first | refine stp ?_ | refine nqif_ways (fun h => ?_) ?_ | ((first | refine gif_ways (fun h => ?_) (fun h => ?_) | refine cif_ways (fun h => ?_) (fun h => ?_)) <;> (try simp only [sxn] at h) <;> (try (exfalso; omega)))) <;> (try (refine wS ?_)))))
    all_goals simp only [sxd, z0, p0, Nat.reduceEqDiff, ↓reduceIte, Tryz.f9, *]
theorem days_step2 {on pp pit p i : Int} {l : List DueV} {k : Nat} {d : DueV} (e : l[k]? = some d) : daysF on pp pit p i (l.drop k) = if d.day ≤ on ∧ (pp < p + d.pr ∨ pit < i + d.it) then on - d.day else daysF on pp pit (p + d.pr) (i + d.it) (l.drop (k + 1)) := by
  have hk : k < l.length := (List.getElem?_eq_some_iff.1 e).1
  rw [List.drop_eq_getElem_cons hk]
  have : l[k] = d := by rw [List.getElem?_eq_getElem hk] at e; exact Option.some.inj e
  rw [this, daysF]
theorem ADays_con (l : LoanV) (on : Int) (hd : Duly l.dues) (o0 : 0 ≤ on) (o1 : on ≤ 73048) : Con Tryz.prog CtxP 10 [.agg [.ex (.int .i64 l.id), .ex (.int .i64 l.acc), .ex (.int .i64 l.st), .ex (.int .i64 l.pp), .ex (.int .i64 l.pit), .ex (.int .i64 l.fee), .ex (.int .i64 l.pen), .ex (.int .i64 l.chg), .ex (.int .i64 l.prov), .ex (.int .i64 l.loss), .ex (.int .i64 l.recd), .ex (.int .i64 l.t.method), .ex (.int .i64 l.t.prin), .ex (.int .i64 l.t.ppm), .ex (.int .i64 l.t.start), .ex (.int .i64 l.t.every), .ex (.int .i64 l.t.count), .ex (.int .i64 l.t.bal), .ex (.int .i64 l.t.mode), .ex (.int .i64 l.t.pen), .ex (.int .i64 l.t.fee), .ex (.string l.t.cal), .ex (.string l.t.cur), .sl (duesC l.dues), .sl []], .ex (.int .i64 on)] (.val (.ex (.int .i64 (daysF on l.pp l.pit 0 0 l.dues)))) := by
  have q1 := dues_len l.dues
  have hln := hd.len
  obtain ⟨ln1, ln2⟩ := hln
  have hps := Lib.hid hd.s.pos
  clear hd
  generalize hR : daysF on l.pp l.pit 0 0 l.dues = R
  refine con_val base Tryz.func10 rfl rfl (by kernel_rfl) (Nat.le_of_ble_eq_true rfl) ?_
  rw [init_eq]
  (repeat' (first | exact trivial | refine stq ?_ | (refine awp_ret ?_; simp only [then_ret, block_ret, end_ret]) | ((first | refine stp ?_ | refine nqif_ways (fun h => ?_) ?_ | ((first | refine gif_ways (fun h => ?_) (fun h => ?_) | refine cif_ways (fun h => ?_) (fun h => ?_)) <;> (try simp only [sxn] at h) <;> (try (exfalso; omega)))) <;> (try (refine wS ?_)))))
  refine vloop (fun n tm hp nx => ∃ (k b : Nat) (p i : Int), n = l.dues.length - k ∧ k ≤ l.dues.length ∧ 0 ≤ p ∧ p ≤ k * 1000000000000 ∧ 0 ≤ i ∧ i ≤ k * 1000000000000 ∧ Hid (daysF on l.pp l.pit p i (l.dues.drop k) = R) ∧ tm 2 = .pt b 0 0 ∧ hp b = some ⟨32, [[.ex (.int .i64 l.id), .ex (.int .i64 l.acc), .ex (.int .i64 l.st), .ex (.int .i64 l.pp), .ex (.int .i64 l.pit), .ex (.int .i64 l.fee), .ex (.int .i64 l.pen), .ex (.int .i64 l.chg), .ex (.int .i64 l.prov), .ex (.int .i64 l.loss), .ex (.int .i64 l.recd), .ex (.int .i64 l.t.method), .ex (.int .i64 l.t.prin), .ex (.int .i64 l.t.ppm), .ex (.int .i64 l.t.start), .ex (.int .i64 l.t.every), .ex (.int .i64 l.t.count), .ex (.int .i64 l.t.bal), .ex (.int .i64 l.t.mode), .ex (.int .i64 l.t.pen), .ex (.int .i64 l.t.fee), .ex (.string l.t.cal), .ex (.string l.t.cur), .sl (duesC l.dues), .sl []]], true⟩ ∧ b < nx ∧ tm 1 = .ex (.int .i64 on) ∧ tm 10 = .sl (duesC l.dues) ∧ tm 11 = .ex (.int .i64 l.dues.length) ∧ tm 12 = .ex (.int .i64 k) ∧ tm 5 = .ex (.int .i64 p) ∧ tm 6 = .ex (.int .i64 i)) l.dues.length ⟨0, _, 0, 0, rfl, Nat.zero_le _, by omega, by omega, by omega, by omega, Lib.hid hR, by exact byQ, by exact byQ, by omega, by exact byS, by exact byS, by exact byS, by exact byS, by exact byS, by exact byS⟩ ?_
  clear hR
  rintro n tm hp nx ⟨k, b, p, i, rfl, hk, p0, p1, i0, i1, hH, g2, gh, hb, g1, g10, g11, g12, g5, g6⟩
  by_cases hlt : k < l.dues.length
  · have e0 : l.dues[k]? = some l.dues[k] := List.getElem?_eq_getElem hlt
    have hx := hps.out _ (List.getElem_mem hlt)
    generalize l.dues[k] = x at e0 hx
    have q4 := dues_get e0
    obtain ⟨x1, x2, x3, x4, x5, x6⟩ := hx
    have hs := hH.out
    rw [days_step2 e0] at hs
    have hlt' : (k : Int) < l.dues.length := by omega
    clear e0 hH
    by_cases c1 : x.day ≤ on
    · by_cases c2 : l.pp < p + x.pr
      · rw [if_pos ⟨c1, .inl c2⟩] at hs
        (repeat' (first | exact trivial | refine stq ?_ | (refine awp_ret ?_; simp only [then_ret, block_ret, end_ret]) | ((first | refine stp ?_ | refine nqif_ways (fun h => ?_) ?_ | ((first | refine gif_ways (fun h => ?_) (fun h => ?_) | refine cif_ways (fun h => ?_) (fun h => ?_)) <;> (try simp only [sxn] at h) <;> (try (exfalso; omega)))) <;> (try (refine wS ?_)))))
        all_goals simp only [sxd, z0, p0, Nat.reduceEqDiff, ↓reduceIte, Tryz.f10, *]
      · by_cases c3 : l.pit < i + x.it
        · rw [if_pos ⟨c1, .inr c3⟩] at hs
          (repeat' (first | exact trivial | refine stq ?_ | (refine awp_ret ?_; simp only [then_ret, block_ret, end_ret]) | ((first | refine stp ?_ | refine nqif_ways (fun h => ?_) ?_ | ((first | refine gif_ways (fun h => ?_) (fun h => ?_) | refine cif_ways (fun h => ?_) (fun h => ?_)) <;> (try simp only [sxn] at h) <;> (try (exfalso; omega)))) <;> (try (refine wS ?_)))))
          all_goals simp only [sxd, z0, p0, Nat.reduceEqDiff, ↓reduceIte, Tryz.f10, *]
        · rw [if_neg (by omega)] at hs
          replace hs := Lib.hid hs
          (repeat' (first | exact trivial | refine stq ?_ | (refine awp_ret ?_; simp only [then_ret, block_ret, end_ret]) | ((first | refine stp ?_ | refine nqif_ways (fun h => ?_) ?_ | ((first | refine gif_ways (fun h => ?_) (fun h => ?_) | refine cif_ways (fun h => ?_) (fun h => ?_)) <;> (try simp only [sxn] at h) <;> (try (exfalso; omega)))) <;> (try (refine wS ?_)))))
          all_goals exact kround_i (l.dues.length - (k + 1)) (by omega) ⟨k + 1, b, p + x.pr, i + x.it, rfl, by omega, by omega, by omega, by omega, by omega, hs, by exact byS, by exact byQ, by omega, by exact byS, by exact byS, by exact byS, by exact byS, by exact byS, by exact byS⟩
    · rw [if_neg (by omega)] at hs
      replace hs := Lib.hid hs
      (repeat' (first | exact trivial | refine stq ?_ | (refine awp_ret ?_; simp only [then_ret, block_ret, end_ret]) | ((first | refine stp ?_ | refine nqif_ways (fun h => ?_) ?_ | ((first | refine gif_ways (fun h => ?_) (fun h => ?_) | refine cif_ways (fun h => ?_) (fun h => ?_)) <;> (try simp only [sxn] at h) <;> (try (exfalso; omega)))) <;> (try (refine wS ?_)))))
      all_goals exact kround_i (l.dues.length - (k + 1)) (by omega) ⟨k + 1, b, p + x.pr, i + x.it, rfl, by omega, by omega, by omega, by omega, by omega, hs, by exact byS, by exact byQ, by omega, by exact byS, by exact byS, by exact byS, by exact byS, by exact byS, by exact byS⟩
  · have hlt' : ¬ (k : Int) < l.dues.length := by omega
    have hs := hH.out
    rw [List.drop_of_length_le (by omega)] at hs
    have hr : R = 0 := by rw [← hs]; rfl
    clear hH hs
    (repeat' (first | exact trivial | refine stq ?_ | (refine awp_ret ?_; simp only [then_ret, block_ret, end_ret]) | ((first | refine stp ?_ | refine nqif_ways (fun h => ?_) ?_ | ((first | refine gif_ways (fun h => ?_) (fun h => ?_) | refine cif_ways (fun h => ?_) (fun h => ?_)) <;> (try simp only [sxn] at h) <;> (try (exfalso; omega)))) <;> (try (refine wS ?_)))))
    all_goals simp only [sxd, z0, p0, Nat.reduceEqDiff, ↓reduceIte, Tryz.f10, *]
end Go.Proofs.YtcoflmckbcnlpaaGreatDoor
namespace Go.Proofs.YtcoflmckbcnlpaaGreatDoor
open Go.RowKit
set_option maxRecDepth 100000
set_option linter.unusedSimpArgs false
theorem initM_eq {e : Nat} {es : List (List AV)} {us : List AV} : initM e es us = ⟨tmI (.own 0 :: us), upd hpI 0 (some ⟨e, es, true⟩), 1⟩ := rfl
theorem dues_ns (l : List DueV) : ((duesC l).all (·.all noSl0)) = true := by
  rw [List.all_eq_true]
  intro n hn
  obtain ⟨m, _, rfl⟩ := List.mem_map.1 hn
  rfl
theorem dues_four (l : List DueV) : ∀ n ∈ duesC l, n.length = 4 := by
  intro n hn
  obtain ⟨m, _, rfl⟩ := List.mem_map.1 hn
  rfl
def lateB (on : Int) (x : DueV) : Bool := decide (on < x.day)
theorem due1_con (x : DueV) (on : Int) : Con Tryz.prog CtxP 104 [.agg [.ex (.int .i64 x.no), .ex (.int .i64 x.day), .ex (.int .i64 x.pr), .ex (.int .i64 x.it)], .rp [.ex (.int .i64 on)] 0] (.val (.ex (.bool (lateB on x)))) := by
  have hr : lateB on x = decide (on < x.day) := rfl
  refine con_val base Tryz.func104 rfl rfl (by kernel_rfl) (Nat.le_of_ble_eq_true rfl) ?_
  rw [init_eq]
  (repeat' (first | exact trivial | refine stq ?_ | (refine awp_ret ?_; simp only [then_ret, block_ret, end_ret]) | ((first | refine stp ?_ | refine nqif_ways (fun h => ?_) ?_ | ((first | refine gif_ways (fun h => ?_) (fun h => ?_) | refine cif_ways (fun h => ?_) (fun h => ?_)) <;> (try simp only [sxn] at h) <;> (try (exfalso; omega)))) <;> (try (refine wS ?_)))))
  all_goals simp only [sxd, z0, p0, Nat.reduceEqDiff, ↓reduceIte, Tryz.f104, *]
theorem IndexL_con (l : List DueV) (on : Int) (hj : l.length ≤ 300) : Con Tryz.prog CtxP 150 [.sl (duesC l), .fn 104 [.rp [.ex (.int .i64 on)] 0]] (.val (.ex (.int .i64 (idxB (lateB on) l)))) := by
  refine con_val base Tryz.func150 rfl rfl (by kernel_rfl) (Nat.le_of_ble_eq_true rfl) ?_
  rw [init_eq]
  have q1 := dues_len l
  (repeat' (first | exact trivial | refine stq ?_ | (refine awp_ret ?_; simp only [then_ret, block_ret, end_ret]) | ((first | refine stp ?_ | refine nqif_ways (fun h => ?_) ?_ | ((first | refine gif_ways (fun h => ?_) (fun h => ?_) | refine cif_ways (fun h => ?_) (fun h => ?_)) <;> (try simp only [sxn] at h) <;> (try (exfalso; omega)))) <;> (try (refine wS ?_)))))
  refine vloop (fun n tm hp nx => ∃ k : Nat, n = l.length - k ∧ k ≤ l.length ∧ tm 0 = .sl (duesC l) ∧ tm 1 = .fn 104 [.rp [.ex (.int .i64 on)] 0] ∧ tm 7 = .ex (.int .i64 l.length) ∧ tm 8 = .ex (.int .i64 k) ∧ Hid (∀ (i : Nat) y, i < k → l[i]? = some y → lateB on y = false)) l.length ⟨0, rfl, Nat.zero_le _, by exact byS, by exact byS, by exact byS, by exact byS, Lib.hid fun i y hi => absurd hi (Nat.not_lt_zero _)⟩ ?_
  rintro n tm hp nx ⟨k, hn, hk, g0, g1, g7, g8, hH⟩
  by_cases hlt : k < l.length
  · have e0 : l[k]? = some l[k] := List.getElem?_eq_getElem hlt
    generalize l[k] = x at e0
    have hc := due1_con x on
    have q4 := dues_get e0
    cases hx : lateB on x with
    | true =>
      have hr : idxB (lateB on) l = k := idxB_at e0 hH.out hx
      rw [hx] at hc
      clear hx e0
      (repeat' (first | exact trivial | refine stq ?_ | (refine awp_ret ?_; simp only [then_ret, block_ret, end_ret]) | ((first | refine cv (hc) ?_ | refine stp ?_ | refine nqif_ways (fun h => ?_) ?_ | ((first | refine gif_ways (fun h => ?_) (fun h => ?_) | refine cif_ways (fun h => ?_) (fun h => ?_)) <;> (try simp only [sxn] at h) <;> (try (exfalso; omega)))) <;> (try (refine wS ?_)))))
      all_goals simp only [sxd, z0, p0, Nat.reduceEqDiff, ↓reduceIte, Tryz.f150, *]
    | false =>
      have n1 := Lib.hid (upto e0 hH.out hx)
      rw [hx] at hc
      clear hx e0
      (repeat' (first | exact trivial | refine stq ?_ | (refine awp_ret ?_; simp only [then_ret, block_ret, end_ret]) | ((first | refine cv (hc) ?_ | refine stp ?_ | refine nqif_ways (fun h => ?_) ?_ | ((first | refine gif_ways (fun h => ?_) (fun h => ?_) | refine cif_ways (fun h => ?_) (fun h => ?_)) <;> (try simp only [sxn] at h) <;> (try (exfalso; omega)))) <;> (try (refine wS ?_)))))
      exact kround_i (l.length - (k + 1)) (by omega) ⟨k + 1, rfl, by omega, by exact byS, by exact byS, by exact byS, by exact byS, n1⟩
  · have hr : idxB (lateB on) l = -1 := idxB_end (fun q y hy => hH.out q y (by have := (List.getElem?_eq_some_iff.1 hy).1; omega) hy)
    (repeat' (first | exact trivial | refine stq ?_ | (refine awp_ret ?_; simp only [then_ret, block_ret, end_ret]) | ((first | refine stp ?_ | refine nqif_ways (fun h => ?_) ?_ | ((first | refine gif_ways (fun h => ?_) (fun h => ?_) | refine cif_ways (fun h => ?_) (fun h => ?_)) <;> (try simp only [sxn] at h) <;> (try (exfalso; omega)))) <;> (try (refine wS ?_)))))
    all_goals simp only [sxd, z0, p0, Nat.reduceEqDiff, ↓reduceIte, Tryz.f150, *]
theorem CloneD_con (l : List DueV) (hl : l.length ≤ 1000) : Con Tryz.prog CtxP 28 [.sl (duesC l)] (.fresh 39 (duesC l)) := by
  refine con_fresh base Tryz.func28 rfl rfl (by kernel_rfl) (Nat.le_of_ble_eq_true rfl) ?_
  rw [init_eq]
  have q1 := dues_len l
  have f1 := dues_p0 l
  have f2 := dues_z0 l
  have f3 := dues_four l
  have f4 : l.length * 32 ≤ 140737488355328 := by omega
  (repeat' (first | exact trivial | refine stq ?_ | (refine awp_ret ?_; simp only [then_ret, block_ret, end_ret]) | ((first | refine stp ?_ | refine nqif_ways (fun h => ?_) ?_ | ((first | refine gif_ways (fun h => ?_) (fun h => ?_) | refine cif_ways (fun h => ?_) (fun h => ?_)) <;> (try simp only [sxn] at h) <;> (try (exfalso; omega)))) <;> (try (refine wS ?_)))))
  all_goals simp only [sxd, z0, p0, Nat.reduceEqDiff, ↓reduceIte, Tryz.f28, *]
theorem DelL_con (l : List DueV) (on : Int) (hl : l.length ≤ 300) {i0 : Nat} (h1 : ∀ (j : Nat) y, j < i0 → l[j]? = some y → lateB on y = false) (h2 : ∀ (j : Nat) y, i0 ≤ j → l[j]? = some y → lateB on y = true) (hi : i0 < l.length) : ConM Tryz.prog CtxP 103 39 (duesC l) [.fn 104 [.rp [.ex (.int .i64 on)] 0]] (duesC (l.take i0)) := by
  refine con_moved base Tryz.func103 rfl rfl (by kernel_rfl) (Nat.le_of_ble_eq_true rfl) (dues_ns _) ?_
  rw [initM_eq]
  have q1 := dues_len l
  have hF := IndexL_con l on hl
  have f1 := dues_p0 l
  have f3 := dues_z0 l
  have hidx : idxB (lateB on) l = (i0 : Int) := idxB_at (List.getElem?_eq_getElem hi) h1 (h2 i0 _ (Nat.le_refl _) (List.getElem?_eq_getElem hi))
  rw [hidx] at hF
  have hdn : decide ((i0 : Int) = -1) = false := decide_eq_false (by omega)
  replace h2 := Lib.hid h2
  clear h1 hidx
  (repeat' (first | exact trivial | refine stq ?_ | (refine awp_ret ?_; simp only [then_ret, block_ret, end_ret]) | ((first | refine cv (hF) ?_ | refine stp ?_ | refine nqif_ways (fun h => ?_) ?_ | ((first | refine gif_ways (fun h => ?_) (fun h => ?_) | refine cif_ways (fun h => ?_) (fun h => ?_)) <;> (try simp only [sxn] at h) <;> (try (exfalso; omega)))) <;> (try (refine wS ?_)))))
  refine vloop (fun n tm hp nx => ∃ j : Nat, n = l.length - j ∧ i0 < j ∧ j ≤ l.length ∧ tm 0 = .own 0 ∧ hp 0 = some ⟨39, duesC l, true⟩ ∧ 0 < nx ∧ tm 1 = .fn 104 [.rp [.ex (.int .i64 on)] 0] ∧ tm 5 = .ex (.int .i64 i0) ∧ tm 6 = .ex (.int .i64 j)) (l.length - (i0 + 1)) ⟨i0 + 1, rfl, by omega, by omega, by exact byS, by exact byQ, by omega, by exact byS, by exact byS, by exact byQ⟩ ?_
  clear hF hdn
  rintro n tm hp nx ⟨j, hn, hij, hj, g0, gh, hnx, g1, g5, g6⟩
  by_cases hlt : j < l.length
  · have e0 : l[j]? = some l[j] := List.getElem?_eq_getElem hlt
    generalize l[j] = x at e0
    have q4 := dues_get e0
    have hc := due1_con x on
    rw [h2.out j x (by omega) e0] at hc
    clear e0
    (repeat' (first | exact trivial | refine stq ?_ | (refine awp_ret ?_; simp only [then_ret, block_ret, end_ret]) | ((first | refine cv (hc) ?_ | refine stp ?_ | refine nqif_ways (fun h => ?_) ?_ | ((first | refine gif_ways (fun h => ?_) (fun h => ?_) | refine cif_ways (fun h => ?_) (fun h => ?_)) <;> (try simp only [sxn] at h) <;> (try (exfalso; omega)))) <;> (try (refine wS ?_)))))
    all_goals exact kround_i (l.length - (j + 1)) (by omega) ⟨j + 1, rfl, by omega, by omega, by exact byS, by exact byQ, by omega, by exact byS, by exact byS, by exact byQ⟩
  · have hjl : j = l.length := by omega
    subst hjl
    have hcut : ((duesC l).take i0 ++ List.replicate (l.length - i0) [AV.ex (.int .i64 0), AV.ex (.int .i64 0), AV.ex (.int .i64 0), AV.ex (.int .i64 0)]).take i0 = duesC (l.take i0) := by
      rw [List.take_append_of_le_length (by rw [List.length_take]; omega), List.take_take, Nat.min_self]
      unfold duesC
      rw [List.map_take]
    have hlc : ((duesC l).take i0 ++ List.replicate (l.length - i0) [AV.ex (.int .i64 0), AV.ex (.int .i64 0), AV.ex (.int .i64 0), AV.ex (.int .i64 0)]).length = l.length := by
      rw [List.length_append, List.length_take, List.length_replicate]; omega
    have f4 := dues_p0 (l.take i0)
    have f5 := dues_z0 (l.take i0)
    have hlt2 : ¬ (l.length : Int) < (l.length : Int) := by omega
    (repeat' (first | exact trivial | refine stq ?_ | (refine awp_ret ?_; simp only [then_ret, block_ret, end_ret]) | ((first | refine slice_vw (l := i0) (by exact byQ) (by first | rfl | omega) (by first | assumption | (simp (disch := omega) only [sx, natS, ↓reduceIte, Nat.reduceAdd, Nat.reduceEqDiff, Nat.reduceLeDiff, *]; (try rfl))) (by simp only [tyb]) (by first | (simp only [tyb]; done) | (simp only [tyb]; decide)) (by first | omega | (simp only [List.length_map, *]; omega)) ?_ | refine slice_cut (l := i0) (by exact byQ) (by first | rfl | omega) (by first | assumption | (simp (disch := omega) only [sx, natS, ↓reduceIte, Nat.reduceAdd, Nat.reduceEqDiff, Nat.reduceLeDiff, *]; (try rfl))) (by simp only [tyb]) (by first | (simp only [tyb]; done) | (simp only [tyb]; decide)) (by first | omega | (simp only [List.length_map, *]; omega)) ?_ | refine stp ?_ | refine nqif_ways (fun h => ?_) ?_ | ((first | refine gif_ways (fun h => ?_) (fun h => ?_) | refine cif_ways (fun h => ?_) (fun h => ?_)) <;> (try simp only [sxn] at h) <;> (try (exfalso; omega)))) <;> (try (refine wS ?_)))))
    all_goals simp only [sxd, z0, p0, Nat.reduceEqDiff, ↓reduceIte, Tryz.f103, *]
theorem DelN_con (l : List DueV) (on : Int) (hl : l.length ≤ 300) (h1 : ∀ (j : Nat) y, l[j]? = some y → lateB on y = false) : ConM Tryz.prog CtxP 103 39 (duesC l) [.fn 104 [.rp [.ex (.int .i64 on)] 0]] (duesC l) := by
  refine con_moved base Tryz.func103 rfl rfl (by kernel_rfl) (Nat.le_of_ble_eq_true rfl) (dues_ns _) ?_
  rw [initM_eq]
  have q1 := dues_len l
  have hF := IndexL_con l on hl
  have f1 := dues_p0 l
  have f3 := dues_z0 l
  have hidx : idxB (lateB on) l = -1 := idxB_end h1
  rw [hidx] at hF
  clear h1 hidx
  (repeat' (first | exact trivial | refine stq ?_ | (refine awp_ret ?_; simp only [then_ret, block_ret, end_ret]) | ((first | refine cv (hF) ?_ | refine stp ?_ | refine nqif_ways (fun h => ?_) ?_ | ((first | refine gif_ways (fun h => ?_) (fun h => ?_) | refine cif_ways (fun h => ?_) (fun h => ?_)) <;> (try simp only [sxn] at h) <;> (try (exfalso; omega)))) <;> (try (refine wS ?_)))))
  all_goals simp only [sxd, z0, p0, Nat.reduceEqDiff, ↓reduceIte, Tryz.f103, *]
theorem due_con (l : List DueV) (on : Int) (hl : l.length ≤ 300) {i0 : Nat} (h1 : ∀ (j : Nat) y, j < i0 → l[j]? = some y → lateB on y = false) (h2 : ∀ (j : Nat) y, i0 ≤ j → l[j]? = some y → lateB on y = true) (hi : i0 ≤ l.length) : Con Tryz.prog CtxP 63 [.sl (duesC l), .ex (.int .i64 on)] (.fresh 39 (duesC (l.take i0))) := by
  have a1 := CloneD_con l (by omega)
  have hD : ConM Tryz.prog CtxP 103 39 (duesC l) [.fn 104 [.rp [.ex (.int .i64 on)] 0]] (duesC (l.take i0)) := by
    rcases Nat.lt_or_ge i0 l.length with h | h
    · exact DelL_con l on hl h1 h2 h
    · rw [List.take_of_length_le h]
      exact DelN_con l on hl fun j y hy => h1 j y (by have := (List.getElem?_eq_some_iff.1 hy).1; omega) hy
  have f1 := dues_p0 l
  have f2 := dues_ns l
  have f3 := dues_z0 l
  have f4 := dues_p0 (l.take i0)
  have f5 := dues_ns (l.take i0)
  have f6 := dues_z0 (l.take i0)
  clear h1 h2
  refine con_fresh base Tryz.func63 rfl rfl (by kernel_rfl) (Nat.le_of_ble_eq_true rfl) ?_
  rw [init_eq]
  (repeat' (first | exact trivial | refine stq ?_ | (refine awp_ret ?_; simp only [then_ret, block_ret, end_ret]) | ((first | refine cf (a1) ?_ | refine call_mv (by exact byQ) rfl (by first | assumption | rfl) byA (by first | exact List.not_mem_nil | (simp only [List.mem_cons, List.not_mem_nil, or_false]; omega)) (by first | assumption | rfl) (by first | assumption | rfl) (hD) ?_ | refine stp ?_ | refine nqif_ways (fun h => ?_) ?_ | ((first | refine gif_ways (fun h => ?_) (fun h => ?_) | refine cif_ways (fun h => ?_) (fun h => ?_)) <;> (try simp only [sxn] at h) <;> (try (exfalso; omega)))) <;> (try (refine wS ?_)))))
  all_goals simp only [sxd, z0, p0, Nat.reduceEqDiff, ↓reduceIte, Tryz.f63, *]
end Go.Proofs.YtcoflmckbcnlpaaGreatDoor