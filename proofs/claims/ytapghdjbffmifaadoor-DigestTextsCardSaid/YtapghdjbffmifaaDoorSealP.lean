/-
  Plain laws on check digits: a sealed text has the value 1, and one digit or letter changed by another of its kind gives another value; the value of two texts one after the other. Conditions: those that each theorem states.
-/
import Derived.Test.YtapghdjbffmifaaDoorDigC
namespace Go.Proofs.YtapghdjbffmifaaDoor
open Go.RowKit

theorem dchr_toNat (d : Nat) (h : d < 10) : (dchr d).toNat = 48 + d := by
  unfold dchr; rw [UInt8.toNat_ofNat']; omega
theorem okc_dchr (d : Nat) (h : d < 10) : okc (dchr d) = true := by unfold okc; rw [dchr_toNat d h, decide_eq_true_eq]; omega
theorem okl_append (a b : List UInt8) : okl (a ++ b) = (okl a && okl b) := by simp [okl]
theorem m97_append (a b : List UInt8) : m97 (a ++ b) = b.foldl st97 (m97 a) := by simp [m97]
theorem st97_inj {n m : Int} {c : UInt8} (h0 : 0 ≤ n ∧ n < 97) (h1 : 0 ≤ m ∧ m < 97) (h : st97 n c = st97 m c) : n = m := by
  unfold st97 at h; split at h <;> omega
theorem fold_inj : ∀ (b : List UInt8) (n m : Int), 0 ≤ n ∧ n < 97 → 0 ≤ m ∧ m < 97 → b.foldl st97 n = b.foldl st97 m → n = m
  | [], _, _, _, _, h => h
  | _ :: b, _, _, h0, h1, h => st97_inj h0 h1 (fold_inj b _ _ (st97_mod _ _) (st97_mod _ _) h)
/-- Of one kind: both letters, or neither. -/
def isLet (c : UInt8) : Bool := decide (65 ≤ c.toNat) && decide (c.toNat ≤ 90)
theorem st97_kind {n : Int} {c d : UInt8} (hc : okc c = true) (hd : okc d = true) (hk : isLet c = isLet d) (h : st97 n c = st97 n d) : c = d := by
  unfold okc at hc hd; rw [decide_eq_true_eq] at hc hd
  unfold isLet at hk
  apply UInt8.toNat_inj.1
  unfold st97 at h
  rcases hc with hc | hc <;> rcases hd with hd | hd
  · rw [if_pos hc.2, if_pos hd.2] at h; omega
  · have e1 : decide (65 ≤ c.toNat) = false := by simp; omega
    have e2 : decide (65 ≤ d.toNat) = true := by simp; omega
    have e3 : decide (d.toNat ≤ 90) = true := by simp; omega
    rw [e1, e2, e3] at hk; cases hk
  · have e1 : decide (65 ≤ d.toNat) = false := by simp; omega
    have e2 : decide (65 ≤ c.toNat) = true := by simp; omega
    have e3 : decide (c.toNat ≤ 90) = true := by simp; omega
    rw [e1, e2, e3] at hk; cases hk
  · rw [if_neg (by omega), if_neg (by omega)] at h; omega
theorem two_ok (d : Int) (h0 : 0 ≤ d) (h1 : d ≤ 99) : okl (two d) = true := by
  unfold two okl; simp only [List.all_cons, List.all_nil, Bool.and_true]; rw [okc_dchr _ (by omega), okc_dchr _ (by omega)]; rfl
theorem seal_ok {l : List UInt8} (h : okl l = true) : okl (sealL l) = true := by
  have := m97_mod (l ++ [48, 48])
  unfold sealL; rw [okl_append, h, two_ok _ (by omega) (by omega)]; rfl
theorem seal_length (l : List UInt8) : (sealL l).length = l.length + 2 := by unfold sealL two; simp
theorem seal_one (l : List UInt8) : m97 (sealL l) = 1 := by
  have hm := m97_mod l
  have hr : m97 (l ++ [48, 48]) = (10 * ((10 * m97 l + 0) % 97) + 0) % 97 := by
    rw [m97_append]
    show st97 (st97 (m97 l) 48) 48 = _
    rw [st97_dig (by decide), st97_dig (by decide)]; rfl
  unfold sealL
  rw [m97_append, hr]
  generalize hR : (10 * ((10 * m97 l + 0) % 97) + 0) % 97 = R
  have hR2 : 0 ≤ R ∧ R < 97 := by omega
  show st97 (st97 (m97 l) (dchr ((98 - R).toNat / 10))) (dchr ((98 - R).toNat % 10)) = 1
  have d1 := dchr_toNat ((98 - R).toNat / 10) (by omega)
  have d2 := dchr_toNat ((98 - R).toNat % 10) (by omega)
  rw [st97_dig (by omega), st97_dig (by omega), d1, d2]
  omega
theorem isSealed_of {l : List UInt8} (h1 : 3 ≤ l.length) (h2 : l.length ≤ 48) (h3 : okl l = true) : isSealed l = (m97 l == 1) := by
  unfold isSealed mod97
  rw [if_neg (by omega), if_pos h3]
  simp [h1]
theorem sealed_seal {l : List UInt8} (h0 : 1 ≤ l.length) (h1 : l.length ≤ 46) (h : okl l = true) : isSealed (sealL l) = true := by
  rw [isSealed_of (by rw [seal_length]; omega) (by rw [seal_length]; omega) (seal_ok h), seal_one]; rfl
/-- One place changed by another byte of its kind. -/
theorem sealed_other {l a b : List UInt8} {x c : UInt8} (h1 : 3 ≤ l.length) (h2 : l.length ≤ 48) (h3 : okl l = true) (h4 : m97 l = 1) (e : l = a ++ x :: b) (hc : okc c = true) (hk : isLet c = isLet x) :
    isSealed (a ++ c :: b) = decide (c = x) := by
  subst e
  rw [okl_append, Bool.and_eq_true] at h3
  obtain ⟨h5, h6⟩ := h3
  have h7 : okc x = true ∧ okl b = true := by unfold okl at h6 ⊢; rw [List.all_cons, Bool.and_eq_true] at h6; exact h6
  have hok : okl (a ++ c :: b) = true := by rw [okl_append, h5]; unfold okl; rw [List.all_cons, hc]; exact h7.2
  rw [isSealed_of (by simpa using h1) (by simpa using h2) hok]
  by_cases hx : c = x
  · subst hx; rw [h4]; simp
  · have hne : m97 (a ++ c :: b) ≠ 1 := fun h => hx (by
      rw [← h4, m97_append, m97_append, List.foldl_cons, List.foldl_cons] at h
      exact st97_kind hc h7.1 hk (fold_inj b _ _ (st97_mod _ _) (st97_mod _ _) h))
    simp [hx, hne]
/-! The value of two texts one after the other. -/
/-- One step of the law: the first value shifted by a byte of the second text. -/
def shift1 (a : Int) (c : UInt8) : Int := if isLet c = true then 10 * (10 * a % 97) % 97 else 10 * a % 97
theorem join_97 : ∀ (t : List UInt8) (n m : Int), 0 ≤ n ∧ n < 97 → 0 ≤ m ∧ m < 97 → okl t = true → t.foldl st97 ((n + m) % 97) = (t.foldl shift1 n + t.foldl st97 m) % 97
  | [], n, m, h0, h1, _ => rfl
  | c :: t, n, m, h0, h1, h => by
    have h2 : okc c = true ∧ okl t = true := by unfold okl at h ⊢; rw [List.all_cons, Bool.and_eq_true] at h; exact h
    rw [List.foldl_cons, List.foldl_cons, List.foldl_cons]
    have hb : 0 ≤ shift1 n c ∧ shift1 n c < 97 := by unfold shift1; split <;> omega
    rw [← join_97 t (shift1 n c) (st97 m c) hb (st97_mod _ _) h2.2]
    congr 1
    have hc := h2.1
    unfold okc at hc; rw [decide_eq_true_eq] at hc
    rcases hc with hc | hc
    · have hl : isLet c = false := by unfold isLet; have e1 : decide (65 ≤ c.toNat) = false := by simp; omega
                                      rw [e1]; rfl
      rw [st97_dig (by omega), st97_dig (by omega)]; unfold shift1; rw [hl]; simp only [Bool.false_eq_true, if_false]; omega
    · have hl : isLet c = true := by unfold isLet; have e1 : decide (65 ≤ c.toNat) = true := by simp; omega
                                     have e2 : decide (c.toNat ≤ 90) = true := by simp; omega
                                     rw [e1, e2]; rfl
      rw [st97_let (by omega), st97_let (by omega)]; unfold shift1; rw [hl]; simp only [if_true]; omega
theorem texts_97 {s t : List UInt8} (h : okl t = true) : m97 (s ++ t) = (t.foldl shift1 (m97 s) + m97 t) % 97 := by
  have := join_97 t (m97 s) 0 (m97_mod s) (by omega) h
  rw [Int.add_zero, Int.emod_eq_of_lt (m97_mod s).1 (m97_mod s).2] at this
  rw [m97_append, this]; rfl
end Go.Proofs.YtapghdjbffmifaaDoor
