/-
  Chapter 19, plain: reversals. Conditions: those that each theorem states.
-/
import Derived.Test.YtmnnphalljnmhaaDoorC19R
import Derived.Test.YtmnnphalljnmhaaDoorC19N
namespace Go.Proofs.YtmnnphalljnmhaaDoor
open Go.RowKit
set_option maxRecDepth 100000
set_option linter.unusedSimpArgs false

theorem totM_negs (s : ByteArray) : ∀ (l : List LegV), W64 (totM (negs l) s) = W64 (-(totM l s))
  | [] => rfl
  | x :: l => by
    have h := totM_negs s l
    show W64 (totM (negL' x :: negs l) s) = _
    rw [totM, totM]
    by_cases hc : x.cur = s
    · rw [if_pos (show (negL' x).cur = s from hc), if_pos hc]
      have e := W64_l (0 - x.amount) (totM (negs l) s)
      have e2 := W64_add (-x.amount) h
      rw [Int.add_comm (totM (negs l) s)] at e2
      rw [show -(x.amount + totM l s) = -totM l s + -x.amount by omega, ← e2]
      rw [show -x.amount + totM (negs l) s = 0 - x.amount + totM (negs l) s by omega]
      exact e
    · rw [if_neg (show ¬ (negL' x).cur = s from hc), if_neg hc, Int.zero_add, Int.zero_add]
      exact h
theorem totL_negs (n : Int) (s : ByteArray) : ∀ (l : List LegV), W64 (totL (negs l) n s) = W64 (-(totL l n s))
  | [] => rfl
  | x :: l => by
    have h := totL_negs n s l
    show W64 (totL (negL' x :: negs l) n s) = _
    rw [totL, totL]
    by_cases hc : x.account = n ∧ x.cur = s
    · rw [if_pos (show (negL' x).account = n ∧ (negL' x).cur = s from hc), if_pos hc]
      have e := W64_l (0 - x.amount) (totL (negs l) n s)
      have e2 := W64_add (-x.amount) h
      rw [Int.add_comm (totL (negs l) n s)] at e2
      rw [show -(x.amount + totL l n s) = -totL l n s + -x.amount by omega, ← e2]
      rw [show -x.amount + totL (negs l) n s = 0 - x.amount + totL (negs l) n s by omega]
      exact e
    · rw [if_neg (show ¬ ((negL' x).account = n ∧ (negL' x).cur = s) from hc), if_neg hc, Int.zero_add, Int.zero_add]
      exact h
theorem negs_in {l : List LegV} : ∀ x ∈ negs l, In64 x.amount := by
  intro x hx
  obtain ⟨y, _, rfl⟩ := List.mem_map.1 hx
  exact W64_in _
/-- The net of a list and its negation is empty. -/
theorem net_cancel {l : List LegV} (hw : ∀ x ∈ l, In64 x.amount) : netL (l ++ negs l) = [] := by
  have hI := collL_inv (l := l ++ negs l) (fun x hx => by
    rcases List.mem_append.1 hx with h | h
    · exact hw x h
    · exact negs_in x h)
  unfold netL
  rw [List.filter_eq_nil_iff]
  intro m hm
  have h1 := hI.a m hm
  rw [totL_app] at h1
  have h2 := W64_add (totL l m.account m.cur) (totL_negs m.account m.cur l)
  rw [Int.add_comm (totL (negs l) _ _)] at h2
  rw [h2, show -totL l m.account m.cur + totL l m.account m.cur = 0 by omega] at h1
  simp [nzL, h1]
  decide
theorem sumE_zero {l : List MonV} (h : sumE l = 0) : ∀ m ∈ l, m.amount = 0 := by
  intro m hm
  obtain ⟨j, hj⟩ := List.mem_iff_getElem?.1 hm
  by_cases h0 : m.amount = 0
  · exact h0
  · rw [sumE_bad hj h0] at h; cases h
theorem legsE_zero : ∀ {l : List LegV}, legsE l = 0 → ∀ x ∈ l, legE x = 0
  | [], _, _, h => by cases h
  | a :: l, h, x, hx => by
    unfold legsE at h
    by_cases h0 : legE a = 0
    · rw [if_pos h0] at h
      rcases List.mem_cons.1 hx with e | e
      · rw [e]; exact h0
      · exact legsE_zero h x e
    · rw [if_neg h0] at h
      exact absurd h h0
theorem legE_good {x : LegV} (h : legE x = 0) : legX x = false ∧ codB x.cur = true := by
  rcases legE_ways x with ⟨_, h2⟩ | ⟨_, _, h2⟩ | ⟨h1, h2, _⟩
  · rw [h2] at h; cases h
  · rw [h2] at h; cases h
  · exact ⟨h1, h2⟩
theorem legE_neg {x : LegV} (h : legE x = 0) : legE (negL' x) = 0 := by
  obtain ⟨h1, h2⟩ := legE_good h
  obtain ⟨a1, a2, a3, a4⟩ := legX_no h1
  have e : IntKind.i64.wrap (0 - x.amount) = 0 - x.amount := wrap_i64 (by omega) (by omega)
  have h3 : legX (negL' x) = false := by
    unfold legX negL'
    simp only [e, Bool.or_eq_false_iff, decide_eq_false_iff_not]
    omega
  rcases legE_ways (negL' x) with ⟨h4, _⟩ | ⟨_, h4, _⟩ | ⟨_, _, h4⟩
  · rw [h3] at h4; cases h4
  · rw [show codB (negL' x).cur = codB x.cur from rfl, h2] at h4; cases h4
  · exact h4
structure Good (e : EntV) : Prop where
  k : keyB e.key = true
  a : badA e = false
  b : badK e = false
  l1 : 2 ≤ e.legs.length
  l2 : e.legs.length ≤ 12
  g : ∀ x ∈ e.legs, legE x = 0
  z : ∀ m ∈ sumsL e.legs, m.amount = 0
theorem good_of {e : EntV} (h : checkE e = 0) : Good e := by
  have hl := chk_legs h
  cases hk : keyB e.key with
  | false => rw [chk_key hk] at h; cases h
  | true =>
    cases ha : badA e with
    | true => rw [chk_a hk ha] at h; cases h
    | false =>
      cases hb : badK e with
      | true => rw [chk_k hk ha hb] at h; cases h
      | false =>
        rw [chk_l hk ha hb (by omega)] at h
        by_cases h0 : legsE e.legs = 0
        · rw [if_pos h0] at h
          exact ⟨hk, ha, hb, hl.1, hl.2, legsE_zero h0, sumE_zero h⟩
        · rw [if_neg h0] at h; exact absurd h h0
theorem tot_zero {l : List LegV} (h : ∀ m ∈ sumsL l, m.amount = 0) (s : ByteArray) : W64 (totM l s) = 0 := by
  have hI := sumsL_inv l
  by_cases hx : ∃ x ∈ l, x.cur = s
  · obtain ⟨x, h1, h2⟩ := hx
    obtain ⟨m, h3, h4⟩ := hI.g x h1
    have h5 := hI.a m h3
    rw [h m h3, h4, h2] at h5
    exact h5.symm
  · rw [totM_none fun x h1 h2 => hx ⟨x, h1, h2⟩]; decide
theorem text_rev {k : ByteArray} (h : keyB k = true) : textB 32 64 (revP ++ k) = true := by
  unfold keyB at h
  rw [Bool.and_eq_true] at h
  obtain ⟨-, h⟩ := h
  unfold textB at h ⊢
  rw [Bool.and_eq_true] at h ⊢
  obtain ⟨h1, h2⟩ := h
  have e : (revP ++ k).data.toList = [114, 101, 118, 101, 114, 115, 101, 32] ++ k.data.toList := by
    rw [ByteArray.data_append, Array.toList_append]; rfl
  refine ⟨?_, ?_⟩
  · rw [e, List.all_append, Bool.and_eq_true]
    refine ⟨by decide, ?_⟩
    rw [List.all_eq_true] at h1 ⊢
    intro c hc
    have := h1 c hc
    unfold inB at this ⊢
    simp only [Bool.and_eq_true, decide_eq_true_eq] at this ⊢
    omega
  · have h3 : (revP ++ k).size = 8 + k.size := by rw [ByteArray.size_append]; rfl
    rw [h3]
    have := of_decide_eq_true h2
    exact decide_eq_true (by omega)
/-- The reversal of a valid entry is valid. -/
theorem rev_good {e : EntV} {key : ByteArray} {booked : Int} (h : revOk e key booked = true) : checkE (revG e key booked) = 0 := by
  unfold revOk at h
  rw [Bool.and_eq_true, Bool.and_eq_true] at h
  obtain ⟨⟨h1, h2⟩, h3⟩ := h
  have G := good_of (of_decide_eq_true h1)
  have hval : dayB e.value = true := by
    have := G.a
    unfold badA at this
    simp only [Bool.or_eq_false_iff, Bool.not_eq_false'] at this
    exact this.1.2
  have ha : badA (revG e key booked) = false := by
    unfold badA
    simp only [Bool.or_eq_false_iff, Bool.not_eq_false']
    exact ⟨⟨⟨text_rev G.k, h3⟩, hval⟩, show dayB 0 = true by decide⟩
  have hb : badK (revG e key booked) = false := by
    show (decide ((11 : Int) < 1) || decide (14 < (11 : Int)) || decide ((0 : Int) < 0) || decide (3 < (0 : Int))) = false
    decide
  have hl : (revG e key booked).legs.length = e.legs.length := negs_len _
  rw [chk_l h2 ha hb (by have := G.l1; have := G.l2; omega), if_pos]
  · refine sumE_ok fun j m hm => ?_
    have hm := List.mem_of_getElem? hm
    rw [(sumsL_inv (negs e.legs)).a m hm, totM_negs]
    exact W64_neg (tot_zero G.z m.cur)
  · refine legsE_ok fun j y hy => ?_
    obtain ⟨x, hx, rfl⟩ := List.mem_map.1 (List.mem_of_getElem? hy)
    exact legE_neg (G.g x hx)
end Go.Proofs.YtmnnphalljnmhaaDoor
