/-
  Decimal forms, written and read. Conditions: none (no program in it).
-/
import Derived.Test.YtaphbajfjmhpnaaDoorCtx
import Derived.Lib.AtoiAll
namespace Go.Proofs.YtaphbajfjmhpnaaDoor
open Go.RowKit
set_option maxRecDepth 100000

def isD (c : UInt8) : Bool := decide (48 ≤ c.toNat) && decide (c.toNat ≤ 57)
def natStep (a : Nat) (c : UInt8) : Nat := a * 10 + (c.toNat - 48)
def natV (acc : Nat) (l : List UInt8) : Nat := l.foldl natStep acc
theorem natV_nil (a : Nat) : natV a [] = a := by unfold natV; rw [List.foldl_nil]
theorem natV_cons (a : Nat) (c : UInt8) (r : List UInt8) : natV a (c :: r) = natV (a * 10 + (c.toNat - 48)) r := by unfold natV; rw [List.foldl_cons, natStep]
theorem head_app {a b : List UInt8} (h : a ≠ []) : (a ++ b).head? = a.head? := by
  cases a with
  | nil => exact absurd rfl h
  | cons x r => rfl
theorem natV_ge : ∀ (l : List UInt8) (acc : Nat), acc ≤ natV acc l
  | [], a => by rw [natV_nil]; exact Nat.le_refl _
  | c :: r, acc => by
    rw [natV_cons]
    exact Nat.le_trans (by omega) (natV_ge r (acc * 10 + (c.toNat - 48)))
theorem natV_app (a b : List UInt8) (acc : Nat) : natV acc (a ++ b) = natV (natV acc a) b := by unfold natV; rw [List.foldl_append]
theorem isD_dig {d : Nat} (h : d < 10) : isD (UInt8.ofNat (48 + d)) = true := by
  unfold isD
  rw [UInt8.toNat_ofNat']
  simp
  omega
theorem dig_val {d : Nat} (h : d < 10) : (UInt8.ofNat (48 + d)).toNat - 48 = d := by rw [UInt8.toNat_ofNat']; omega
theorem isD_inv {c : UInt8} (h : isD c = true) : ∃ d, d < 10 ∧ c.toNat - 48 = d ∧ c = UInt8.ofNat (48 + d) ∧ c.toNat = 48 + d := by
  unfold isD at h
  simp only [Bool.and_eq_true, decide_eq_true_eq] at h
  refine ⟨c.toNat - 48, by omega, rfl, ?_, by omega⟩
  rw [show 48 + (c.toNat - 48) = c.toNat by omega]
  exact (UInt8.ofNat_toNat).symm
theorem dec_small {u : Nat} (h : u < 10) : Lib.decDigits u = [UInt8.ofNat (48 + u)] := by rw [Lib.decDigits, dif_pos h]
theorem dec_big {u : Nat} (h : ¬ u < 10) : Lib.decDigits u = Lib.decDigits (u / 10) ++ [UInt8.ofNat (48 + u % 10)] := by rw [Lib.decDigits, dif_neg h]
theorem dec_ne : ∀ (u : Nat), Lib.decDigits u ≠ [] := by
  intro u
  by_cases h : u < 10
  · rw [dec_small h]; simp
  · rw [dec_big h]; simp
theorem dec_all : ∀ (n u : Nat), u ≤ n → (Lib.decDigits u).all isD = true
  | 0, u, h => by rw [dec_small (by omega), List.all_cons, isD_dig (by omega)]; rfl
  | n + 1, u, h => by
    by_cases h1 : u < 10
    · rw [dec_small h1, List.all_cons, isD_dig h1]; rfl
    · rw [dec_big h1, List.all_append, dec_all n (u / 10) (by omega), List.all_cons, isD_dig (Nat.mod_lt _ (by omega))]; rfl
theorem dec_val : ∀ (n u : Nat), u ≤ n → natV 0 (Lib.decDigits u) = u
  | 0, u, h => by rw [dec_small (by omega), natV_cons, natV_nil, dig_val (by omega)]; omega
  | n + 1, u, h => by
    by_cases h1 : u < 10
    · rw [dec_small h1, natV_cons, natV_nil, dig_val h1]; omega
    · rw [dec_big h1, natV_app, dec_val n (u / 10) (by omega), natV_cons, natV_nil, dig_val (Nat.mod_lt _ (by omega))]; omega
theorem dec_head : ∀ (n u : Nat), u ≤ n → (Lib.decDigits u).head? = some 48 → u = 0
  | 0, u, h, _ => by omega
  | n + 1, u, h, e => by
    by_cases h1 : u < 10
    · rw [dec_small h1] at e
      simp only [List.head?_cons, Option.some.injEq] at e
      have := congrArg UInt8.toNat e
      rw [UInt8.toNat_ofNat'] at this
      have h48 : (48 : UInt8).toNat = 48 := rfl
      omega
    · rw [dec_big h1, head_app (dec_ne _)] at e
      have := dec_head n (u / 10) (by omega) e
      omega

/-- The decimal form of a number from 0 on. -/
def natL (l : List UInt8) : Bool := l.all isD && (decide (l = [48]) || (!l.isEmpty && !decide (l.head? = some 48)))
theorem natL_dec (u : Nat) : natL (Lib.decDigits u) = true := by
  unfold natL
  rw [dec_all u u (Nat.le_refl _), Bool.true_and, Bool.or_eq_true]
  by_cases h : u = 0
  · subst h
    exact .inl (by rw [dec_small (by omega)]; rfl)
  · refine .inr ?_
    rw [Bool.and_eq_true]
    refine ⟨?_, ?_⟩
    · have := dec_ne u
      cases e : Lib.decDigits u with
      | nil => exact absurd e this
      | cons a r => rfl
    · rw [Bool.not_eq_true', decide_eq_false_iff_not]
      exact fun e => h (dec_head u u (Nat.le_refl _) e)
theorem dec_nat : ∀ (n : Nat) (l : List UInt8), l.length ≤ n → natL l = true → Lib.decDigits (natV 0 l) = l
  | 0, l, h, e => by
    have : l = [] := List.eq_nil_of_length_eq_zero (by omega)
    subst this
    cases e
  | n + 1, l, h, e => by
    rcases List.eq_nil_or_concat l with rfl | ⟨r, c, rfl⟩
    · cases e
    · rw [List.concat_eq_append] at e h ⊢
      unfold natL at e
      rw [Bool.and_eq_true, List.all_append, Bool.and_eq_true] at e
      obtain ⟨⟨e1, e2⟩, e3⟩ := e
      obtain ⟨d, d1, d2, d3, _⟩ := isD_inv (c := c) (by simpa using e2)
      rw [natV_app, natV_cons, natV_nil, d2]
      by_cases hr : r = []
      · subst hr
        rw [natV_nil, dec_small (by omega), d3]
        simp
      · have hh : ¬ r.head? = some 48 := by
          rw [Bool.or_eq_true] at e3
          rcases e3 with e3 | e3
          · have e4 := congrArg List.length (of_decide_eq_true e3)
            have e5 : 0 < r.length := List.length_pos_iff.2 hr
            rw [List.length_append] at e4
            simp only [List.length_cons, List.length_nil] at e4
            exfalso
            omega
          · rw [Bool.and_eq_true, Bool.not_eq_true', Bool.not_eq_true', decide_eq_false_iff_not, head_app hr] at e3
            exact e3.2
        have hn : natL r = true := by
          unfold natL
          rw [e1, Bool.true_and, Bool.or_eq_true]
          refine .inr ?_
          rw [Bool.and_eq_true]
          refine ⟨?_, by rw [Bool.not_eq_true', decide_eq_false_iff_not]; exact hh⟩
          cases r with
          | nil => exact absurd rfl hr
          | cons a q => rfl
        have ih := dec_nat n r (by simp at h; omega) hn
        have hv : natV 0 r ≠ 0 := fun z => by
          rw [z, dec_small (by omega)] at ih
          rw [← ih] at hh
          exact hh rfl
        have h1 : (natV 0 r * 10 + d) / 10 = natV 0 r := by omega
        have h2 : (natV 0 r * 10 + d) % 10 = d := by omega
        rw [dec_big (by omega), h1, h2, ih, ← d3]

def negL (l : List UInt8) : Bool := decide (l.head? = some 45)
def digL (l : List UInt8) : List UInt8 := if negL l = true then l.drop 1 else l
def decL (l : List UInt8) : Bool := natL (digL l) && !(negL l && decide (digL l = [48]))
def fitL (l : List UInt8) : Bool := decide (natV 0 (digL l) ≤ (if negL l = true then 9223372036854775808 else 9223372036854775807))
def takeV (l : List UInt8) : Int := if decL l = true then (if fitL l = true then (if negL l = true then -(natV 0 (digL l) : Int) else natV 0 (digL l)) else 0) else 0
def takeE (l : List UInt8) : Int := if decL l = true then (if fitL l = true then 0 else 6) else 2
theorem takeE_cases (l : List UInt8) : takeE l = 0 ∨ takeE l = 6 ∨ takeE l = 2 := by
  unfold takeE
  split
  · split
    · exact .inl rfl
    · exact .inr (.inl rfl)
  · exact .inr (.inr rfl)
theorem takeV_bounds (l : List UInt8) : -9223372036854775808 ≤ takeV l ∧ takeV l ≤ 9223372036854775807 := by
  unfold takeV
  split
  · by_cases hf : fitL l = true
    · rw [if_pos hf]
      unfold fitL at hf
      rw [decide_eq_true_eq] at hf
      by_cases hn : negL l = true
      · rw [if_pos hn] at hf ⊢; omega
      · rw [if_neg hn] at hf ⊢; omega
    · rw [if_neg hf]; omega
  · omega
theorem negL_dec (u : Nat) : negL (Lib.decDigits u) = false := by
  unfold negL
  rw [decide_eq_false_iff_not]
  intro e
  have h := dec_all u u (Nat.le_refl _)
  cases q : Lib.decDigits u with
  | nil => exact dec_ne u q
  | cons a r =>
    rw [q] at e h
    simp only [List.head?_cons, Option.some.injEq] at e
    subst e
    simp [isD] at h
theorem take_itoa (n : Int) (h0 : -9223372036854775808 ≤ n) (h1 : n ≤ 9223372036854775807) : takeE (Lib.itoa n) = 0 ∧ takeV (Lib.itoa n) = n := by
  by_cases h : n < 0
  · have e : Lib.itoa n = 45 :: Lib.decDigits n.natAbs := by unfold Lib.itoa; rw [if_pos h]
    have a : negL (Lib.itoa n) = true := by rw [e]; rfl
    have b : digL (Lib.itoa n) = Lib.decDigits n.natAbs := by unfold digL; rw [a, if_pos rfl, e]; rfl
    have c : natV 0 (digL (Lib.itoa n)) = n.natAbs := by rw [b, dec_val _ _ (Nat.le_refl _)]
    have d : decL (Lib.itoa n) = true := by
      unfold decL
      rw [b, natL_dec, Bool.true_and, Bool.not_eq_true', Bool.and_eq_false_iff]
      refine .inr ?_
      rw [decide_eq_false_iff_not]
      intro z
      have := dec_head n.natAbs n.natAbs (Nat.le_refl _) (by rw [z]; rfl)
      omega
    have f : fitL (Lib.itoa n) = true := by unfold fitL; rw [c, a, if_pos rfl, decide_eq_true_eq]; omega
    unfold takeE takeV
    rw [if_pos d, if_pos f, if_pos d, if_pos f, if_pos a, c]
    exact ⟨rfl, by omega⟩
  · have e : Lib.itoa n = Lib.decDigits n.toNat := by unfold Lib.itoa; rw [if_neg h]
    have a : negL (Lib.itoa n) = false := by rw [e]; exact negL_dec _
    have b : digL (Lib.itoa n) = Lib.decDigits n.toNat := by unfold digL; rw [a, if_neg (by simp), e]
    have c : natV 0 (digL (Lib.itoa n)) = n.toNat := by rw [b, dec_val _ _ (Nat.le_refl _)]
    have d : decL (Lib.itoa n) = true := by
      unfold decL
      rw [b, natL_dec, a]; rfl
    have f : fitL (Lib.itoa n) = true := by unfold fitL; rw [c, a, if_neg (by simp), decide_eq_true_eq]; omega
    unfold takeE takeV
    rw [if_pos d, if_pos f, if_pos d, if_pos f, a, if_neg (by simp), c]
    exact ⟨rfl, by omega⟩
theorem itoa_take {l : List UInt8} (h : takeE l = 0) : Lib.itoa (takeV l) = l := by
  unfold takeE at h
  unfold takeV
  by_cases d : decL l = true
  · rw [if_pos d] at h ⊢
    by_cases f : fitL l = true
    · rw [if_pos f] at h ⊢
      unfold decL at d
      rw [Bool.and_eq_true, Bool.not_eq_true', Bool.and_eq_false_iff] at d
      have hd := dec_nat _ _ (Nat.le_refl _) d.1
      by_cases a : negL l = true
      · rw [if_pos a]
        have z : digL l ≠ [48] := by
          rcases d.2 with q | q
          · rw [a] at q; cases q
          · simpa using q
        have nz : natV 0 (digL l) ≠ 0 := fun e => by
          rw [e, dec_small (by omega)] at hd
          exact z hd.symm
        have e : Lib.itoa (-(natV 0 (digL l) : Int)) = 45 :: Lib.decDigits (natV 0 (digL l)) := by
          unfold Lib.itoa; rw [if_pos (by omega)]; simp
        rw [e, hd]
        unfold digL
        rw [if_pos a]
        unfold negL at a
        cases l with
        | nil => cases a
        | cons x r => simp at a; simp [a]
      · rw [if_neg a]
        have e : Lib.itoa (natV 0 (digL l) : Int) = Lib.decDigits (natV 0 (digL l)) := by
          unfold Lib.itoa; rw [if_neg (by omega)]; simp
        rw [e, hd]
        unfold digL
        rw [if_neg a]
    · rw [if_neg f] at h; cases h
  · rw [if_neg d] at h; cases h
/-- strconv's reading of a text that is a decimal form. -/
theorem parse_dig : ∀ (l : List UInt8) (acc : Nat), l.all isD = true → acc < 18446744073709551616 → Lib.parseUint10 acc l = if natV acc l < 18446744073709551616 then .ok (natV acc l) else .range
  | [], acc, _, h => by rw [Lib.parseUint10, natV_nil, if_pos h]
  | c :: r, acc, ha, h => by
    rw [List.all_cons, Bool.and_eq_true] at ha
    obtain ⟨d, d1, d2, _, d4⟩ := isD_inv ha.1
    rw [Lib.parseUint10, natV_cons, if_pos (by omega), d2]
    have hg := natV_ge r (acc * 10 + d)
    by_cases h1 : 1844674407370955162 ≤ acc
    · rw [if_pos h1, if_neg (by omega)]
    · rw [if_neg h1]
      by_cases h2 : 18446744073709551616 ≤ acc * 10 + d
      · rw [if_pos h2, if_neg (by omega)]
      · rw [if_neg h2]
        exact parse_dig r _ ha.2 (by omega)
theorem natL_ne {l : List UInt8} (h : natL l = true) : l ≠ [] := fun e => by rw [e] at h; cases h
theorem natL_all {l : List UInt8} (h : natL l = true) : l.all isD = true := by unfold natL at h; rw [Bool.and_eq_true] at h; exact h.1
theorem atoi_dec {l : List UInt8} (h : decL l = true) : Lib.atoiAll l = if fitL l = true then .ok (takeV l) else .range := by
  have hn : natL (digL l) = true := by unfold decL at h; rw [Bool.and_eq_true] at h; exact h.1
  have ha := natL_all hn
  have hp := parse_dig (digL l) 0 ha (by omega)
  have hv : fitL l = true → takeV l = if negL l = true then -(natV 0 (digL l) : Int) else natV 0 (digL l) := fun f => by unfold takeV; rw [if_pos h, if_pos f]
  cases l with
  | nil => cases h
  | cons c r =>
    rw [Lib.atoiAll]
    have e45 : (negL (c :: r) = true) ↔ c.toNat = 45 := by
      unfold negL
      rw [decide_eq_true_eq, List.head?_cons, Option.some.injEq]
      exact ⟨fun e => by rw [e]; rfl, fun e => UInt8.toNat.inj e⟩
    have eD : (if c.toNat = 43 ∨ c.toNat = 45 then r else c :: r) = digL (c :: r) := by
      unfold digL
      by_cases q : c.toNat = 45
      · rw [if_pos (.inr q), if_pos (e45.2 q)]; rfl
      · have z : ¬ negL (c :: r) = true := fun z => q (e45.1 z)
        rw [if_neg z]
        refine if_neg fun q' => ?_
        rcases q' with q' | q'
        · have : digL (c :: r) = c :: r := by unfold digL; rw [if_neg z]
          rw [this, List.all_cons, Bool.and_eq_true] at ha
          obtain ⟨d, _, _, _, d4⟩ := isD_inv ha.1
          omega
        · exact q q'
    rw [eD]
    unfold Lib.parseMag
    rw [if_neg (natL_ne hn), hp]
    by_cases q : c.toNat = 45
    · have z := e45.2 q
      have hf : fitL (c :: r) = decide (natV 0 (digL (c :: r)) ≤ 9223372036854775808) := by unfold fitL; rw [if_pos z]
      rw [if_pos z] at hv
      generalize natV 0 (digL (c :: r)) = v at *
      by_cases h1 : v < 18446744073709551616
      · simp only [if_pos h1, q, not_true_eq_false, false_and, if_false, true_and, if_true]
        by_cases h2 : 9223372036854775808 < v
        · rw [if_pos h2, if_neg (by rw [hf, decide_eq_true_eq]; omega)]
        · have f : fitL (c :: r) = true := by rw [hf, decide_eq_true_eq]; omega
          rw [if_neg h2, if_pos f, hv f]
      · simp only [if_neg h1]
        rw [if_neg (by rw [hf, decide_eq_true_eq]; omega)]
    · have z : ¬ negL (c :: r) = true := fun z => q (e45.1 z)
      have hf : fitL (c :: r) = decide (natV 0 (digL (c :: r)) ≤ 9223372036854775807) := by unfold fitL; rw [if_neg z]
      rw [if_neg z] at hv
      generalize natV 0 (digL (c :: r)) = v at *
      by_cases h1 : v < 18446744073709551616
      · simp only [if_pos h1, q, not_false_eq_true, true_and, if_false, false_and]
        by_cases h2 : 9223372036854775808 ≤ v
        · rw [if_pos h2, if_neg (by rw [hf, decide_eq_true_eq]; omega)]
        · have f : fitL (c :: r) = true := by rw [hf, decide_eq_true_eq]; omega
          rw [if_neg h2, if_pos f, hv f]
      · simp only [if_neg h1]
        rw [if_neg (by rw [hf, decide_eq_true_eq]; omega)]
/-- wire.decimal's tests. -/
theorem decL_bad {l : List UInt8} (h : digL l = [] ∨ ((digL l).head? = some 48 ∧ 1 < l.length)) : decL l = false := by
  unfold decL
  rcases h with h | ⟨h1, h2⟩
  · rw [h]; rfl
  · cases q : digL l with
    | nil => rfl
    | cons a r =>
      rw [q] at h1
      simp only [List.head?_cons, Option.some.injEq] at h1
      subst h1
      unfold natL
      cases r with
      | nil =>
        by_cases z : negL l = true
        · rw [z]; rfl
        · exfalso
          unfold digL at q
          rw [if_neg z] at q
          rw [q] at h2
          simp at h2
      | cons b r => simp
theorem decL_good {l : List UInt8} (h1 : digL l ≠ []) (h2 : ¬ ((digL l).head? = some 48 ∧ 1 < l.length)) : decL l = (digL l).all isD := by
  unfold decL natL
  by_cases q : (digL l).head? = some 48
  · have hl : ¬ 1 < l.length := fun z => h2 ⟨q, z⟩
    have z : ¬ negL l = true := fun z => by
      unfold digL at h1
      rw [if_pos z] at h1
      exact h1 (by rw [List.drop_of_length_le (by omega)])
    have e : digL l = l := by unfold digL; rw [if_neg z]
    rw [e] at h1 q ⊢
    have z' : negL l = false := by simpa using z
    cases l with
    | nil => exact absurd rfl h1
    | cons a r =>
      cases r with
      | cons b r => exact absurd (by simp) hl
      | nil =>
        simp only [List.head?_cons, Option.some.injEq] at q
        subst q
        rw [z']; rfl
  · cases w : digL l with
    | nil => exact absurd w h1
    | cons a r =>
      rw [w] at q
      have e : ¬ (a :: r) = [48] := fun e => by rw [e] at q; exact q rfl
      simp only [List.head?_cons] at q
      simp [e, q]
theorem bytes_ext {a : ByteArray} {l : List UInt8} (h : a.data.toList = l) : a = ⟨l.toArray⟩ := by
  cases a with
  | mk d => cases d with | mk x => simp at h; rw [h]
end Go.Proofs.YtaphbajfjmhpnaaDoor
