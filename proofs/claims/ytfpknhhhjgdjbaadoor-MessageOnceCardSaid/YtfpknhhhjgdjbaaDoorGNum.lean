/-
  Decimal forms, written and read. Conditions: none (no program in it).
  Encodings of texts and of numbers, written and read. Conditions: none (no program in it).
-/
import Derived.Test.YtfpknhhhjgdjbaaDoorPk0
import Derived.Lib.AtoiAll
namespace Go.Proofs.YtfpknhhhjgdjbaaDoor
open Go.RowKit
set_option maxRecDepth 100000

def isD (c : UInt8) : Bool := decide (48 ≤ c.toNat) && decide (c.toNat ≤ 57)
def natStep (a : Nat) (c : UInt8) : Nat := a * 10 + (c.toNat - 48)
def natV (acc : Nat) (l : List UInt8) : Nat := l.foldl natStep acc
theorem natV_nil (a : Nat) : natV a [] = a := by unfold natV; rw [List.foldl_nil]
theorem natV_cons (a : Nat) (c : UInt8) (r : List UInt8) : natV a (c :: r) = natV (a * 10 + (c.toNat - 48)) r := by unfold natV; rw [List.foldl_cons, natStep]
theorem head_app {a b : List UInt8} (h : a ≠ []) : (a ++ b).head? = a.head? := by
  cases a with
  | nil => exact absurd rfl h
  | cons x r => rfl
theorem natV_ge : ∀ (l : List UInt8) (acc : Nat), acc ≤ natV acc l
  | [], a => by rw [natV_nil]; exact Nat.le_refl _
  | c :: r, acc => by
    rw [natV_cons]
    exact Nat.le_trans (by omega) (natV_ge r (acc * 10 + (c.toNat - 48)))
theorem natV_app (a b : List UInt8) (acc : Nat) : natV acc (a ++ b) = natV (natV acc a) b := by unfold natV; rw [List.foldl_append]
theorem isD_dig {d : Nat} (h : d < 10) : isD (UInt8.ofNat (48 + d)) = true := by
  unfold isD
  rw [UInt8.toNat_ofNat']
  simp
  omega
theorem dig_val {d : Nat} (h : d < 10) : (UInt8.ofNat (48 + d)).toNat - 48 = d := by rw [UInt8.toNat_ofNat']; omega
theorem isD_inv {c : UInt8} (h : isD c = true) : ∃ d, d < 10 ∧ c.toNat - 48 = d ∧ c = UInt8.ofNat (48 + d) ∧ c.toNat = 48 + d := by
  unfold isD at h
  simp only [Bool.and_eq_true, decide_eq_true_eq] at h
  refine ⟨c.toNat - 48, by omega, rfl, ?_, by omega⟩
  rw [show 48 + (c.toNat - 48) = c.toNat by omega]
  exact (UInt8.ofNat_toNat).symm
theorem dec_small {u : Nat} (h : u < 10) : Lib.decDigits u = [UInt8.ofNat (48 + u)] := by rw [Lib.decDigits, dif_pos h]
theorem dec_big {u : Nat} (h : ¬ u < 10) : Lib.decDigits u = Lib.decDigits (u / 10) ++ [UInt8.ofNat (48 + u % 10)] := by rw [Lib.decDigits, dif_neg h]
theorem dec_ne : ∀ (u : Nat), Lib.decDigits u ≠ [] := by
  intro u
  by_cases h : u < 10
  · rw [dec_small h]; simp
  · rw [dec_big h]; simp
theorem dec_all : ∀ (n u : Nat), u ≤ n → (Lib.decDigits u).all isD = true
  | 0, u, h => by rw [dec_small (by omega), List.all_cons, isD_dig (by omega)]; rfl
  | n + 1, u, h => by
    by_cases h1 : u < 10
    · rw [dec_small h1, List.all_cons, isD_dig h1]; rfl
    · rw [dec_big h1, List.all_append, dec_all n (u / 10) (by omega), List.all_cons, isD_dig (Nat.mod_lt _ (by omega))]; rfl
theorem dec_val : ∀ (n u : Nat), u ≤ n → natV 0 (Lib.decDigits u) = u
  | 0, u, h => by rw [dec_small (by omega), natV_cons, natV_nil, dig_val (by omega)]; omega
  | n + 1, u, h => by
    by_cases h1 : u < 10
    · rw [dec_small h1, natV_cons, natV_nil, dig_val h1]; omega
    · rw [dec_big h1, natV_app, dec_val n (u / 10) (by omega), natV_cons, natV_nil, dig_val (Nat.mod_lt _ (by omega))]; omega
theorem dec_head : ∀ (n u : Nat), u ≤ n → (Lib.decDigits u).head? = some 48 → u = 0
  | 0, u, h, _ => by omega
  | n + 1, u, h, e => by
    by_cases h1 : u < 10
    · rw [dec_small h1] at e
      simp only [List.head?_cons, Option.some.injEq] at e
      have := congrArg UInt8.toNat e
      rw [UInt8.toNat_ofNat'] at this
      have h48 : (48 : UInt8).toNat = 48 := rfl
      omega
    · rw [dec_big h1, head_app (dec_ne _)] at e
      have := dec_head n (u / 10) (by omega) e
      omega

/-- The decimal form of a number from 0 on. -/
def natL (l : List UInt8) : Bool := l.all isD && (decide (l = [48]) || (!l.isEmpty && !decide (l.head? = some 48)))
theorem natL_dec (u : Nat) : natL (Lib.decDigits u) = true := by
  unfold natL
  rw [dec_all u u (Nat.le_refl _), Bool.true_and, Bool.or_eq_true]
  by_cases h : u = 0
  · subst h
    exact .inl (by rw [dec_small (by omega)]; rfl)
  · refine .inr ?_
    rw [Bool.and_eq_true]
    refine ⟨?_, ?_⟩
    · have := dec_ne u
      cases e : Lib.decDigits u with
      | nil => exact absurd e this
      | cons a r => rfl
    · rw [Bool.not_eq_true', decide_eq_false_iff_not]
      exact fun e => h (dec_head u u (Nat.le_refl _) e)
theorem dec_nat : ∀ (n : Nat) (l : List UInt8), l.length ≤ n → natL l = true → Lib.decDigits (natV 0 l) = l
  | 0, l, h, e => by
    have : l = [] := List.eq_nil_of_length_eq_zero (by omega)
    subst this
    cases e
  | n + 1, l, h, e => by
    rcases List.eq_nil_or_concat l with rfl | ⟨r, c, rfl⟩
    · cases e
    · rw [List.concat_eq_append] at e h ⊢
      unfold natL at e
      rw [Bool.and_eq_true, List.all_append, Bool.and_eq_true] at e
      obtain ⟨⟨e1, e2⟩, e3⟩ := e
      obtain ⟨d, d1, d2, d3, _⟩ := isD_inv (c := c) (by simpa using e2)
      rw [natV_app, natV_cons, natV_nil, d2]
      by_cases hr : r = []
      · subst hr
        rw [natV_nil, dec_small (by omega), d3]
        simp
      · have hh : ¬ r.head? = some 48 := by
          rw [Bool.or_eq_true] at e3
          rcases e3 with e3 | e3
          · have e4 := congrArg List.length (of_decide_eq_true e3)
            have e5 : 0 < r.length := List.length_pos_iff.2 hr
            rw [List.length_append] at e4
            simp only [List.length_cons, List.length_nil] at e4
            exfalso
            omega
          · rw [Bool.and_eq_true, Bool.not_eq_true', Bool.not_eq_true', decide_eq_false_iff_not, head_app hr] at e3
            exact e3.2
        have hn : natL r = true := by
          unfold natL
          rw [e1, Bool.true_and, Bool.or_eq_true]
          refine .inr ?_
          rw [Bool.and_eq_true]
          refine ⟨?_, by rw [Bool.not_eq_true', decide_eq_false_iff_not]; exact hh⟩
          cases r with
          | nil => exact absurd rfl hr
          | cons a q => rfl
        have ih := dec_nat n r (by simp at h; omega) hn
        have hv : natV 0 r ≠ 0 := fun z => by
          rw [z, dec_small (by omega)] at ih
          rw [← ih] at hh
          exact hh rfl
        have h1 : (natV 0 r * 10 + d) / 10 = natV 0 r := by omega
        have h2 : (natV 0 r * 10 + d) % 10 = d := by omega
        rw [dec_big (by omega), h1, h2, ih, ← d3]

def negL (l : List UInt8) : Bool := decide (l.head? = some 45)
def digL (l : List UInt8) : List UInt8 := if negL l = true then l.drop 1 else l
def decL (l : List UInt8) : Bool := natL (digL l) && !(negL l && decide (digL l = [48]))
def fitL (l : List UInt8) : Bool := decide (natV 0 (digL l) ≤ (if negL l = true then 9223372036854775808 else 9223372036854775807))
def takeV (l : List UInt8) : Int := if decL l = true then (if fitL l = true then (if negL l = true then -(natV 0 (digL l) : Int) else natV 0 (digL l)) else 0) else 0
def takeE (l : List UInt8) : Int := if decL l = true then (if fitL l = true then 0 else 6) else 2
theorem takeE_cases (l : List UInt8) : takeE l = 0 ∨ takeE l = 6 ∨ takeE l = 2 := by
  unfold takeE
  split
  · split
    · exact .inl rfl
    · exact .inr (.inl rfl)
  · exact .inr (.inr rfl)
theorem takeV_bounds (l : List UInt8) : -9223372036854775808 ≤ takeV l ∧ takeV l ≤ 9223372036854775807 := by
  unfold takeV
  split
  · by_cases hf : fitL l = true
    · rw [if_pos hf]
      unfold fitL at hf
      rw [decide_eq_true_eq] at hf
      by_cases hn : negL l = true
      · rw [if_pos hn] at hf ⊢; omega
      · rw [if_neg hn] at hf ⊢; omega
    · rw [if_neg hf]; omega
  · omega
theorem negL_dec (u : Nat) : negL (Lib.decDigits u) = false := by
  unfold negL
  rw [decide_eq_false_iff_not]
  intro e
  have h := dec_all u u (Nat.le_refl _)
  cases q : Lib.decDigits u with
  | nil => exact dec_ne u q
  | cons a r =>
    rw [q] at e h
    simp only [List.head?_cons, Option.some.injEq] at e
    subst e
    simp [isD] at h
theorem take_itoa (n : Int) (h0 : -9223372036854775808 ≤ n) (h1 : n ≤ 9223372036854775807) : takeE (Lib.itoa n) = 0 ∧ takeV (Lib.itoa n) = n := by
  by_cases h : n < 0
  · have e : Lib.itoa n = 45 :: Lib.decDigits n.natAbs := by unfold Lib.itoa; rw [if_pos h]
    have a : negL (Lib.itoa n) = true := by rw [e]; rfl
    have b : digL (Lib.itoa n) = Lib.decDigits n.natAbs := by unfold digL; rw [a, if_pos rfl, e]; rfl
    have c : natV 0 (digL (Lib.itoa n)) = n.natAbs := by rw [b, dec_val _ _ (Nat.le_refl _)]
    have d : decL (Lib.itoa n) = true := by
      unfold decL
      rw [b, natL_dec, Bool.true_and, Bool.not_eq_true', Bool.and_eq_false_iff]
      refine .inr ?_
      rw [decide_eq_false_iff_not]
      intro z
      have := dec_head n.natAbs n.natAbs (Nat.le_refl _) (by rw [z]; rfl)
      omega
    have f : fitL (Lib.itoa n) = true := by unfold fitL; rw [c, a, if_pos rfl, decide_eq_true_eq]; omega
    unfold takeE takeV
    rw [if_pos d, if_pos f, if_pos d, if_pos f, if_pos a, c]
    exact ⟨rfl, by omega⟩
  · have e : Lib.itoa n = Lib.decDigits n.toNat := by unfold Lib.itoa; rw [if_neg h]
    have a : negL (Lib.itoa n) = false := by rw [e]; exact negL_dec _
    have b : digL (Lib.itoa n) = Lib.decDigits n.toNat := by unfold digL; rw [a, if_neg (by simp), e]
    have c : natV 0 (digL (Lib.itoa n)) = n.toNat := by rw [b, dec_val _ _ (Nat.le_refl _)]
    have d : decL (Lib.itoa n) = true := by
      unfold decL
      rw [b, natL_dec, a]; rfl
    have f : fitL (Lib.itoa n) = true := by unfold fitL; rw [c, a, if_neg (by simp), decide_eq_true_eq]; omega
    unfold takeE takeV
    rw [if_pos d, if_pos f, if_pos d, if_pos f, a, if_neg (by simp), c]
    exact ⟨rfl, by omega⟩
theorem itoa_take {l : List UInt8} (h : takeE l = 0) : Lib.itoa (takeV l) = l := by
  unfold takeE at h
  unfold takeV
  by_cases d : decL l = true
  · rw [if_pos d] at h ⊢
    by_cases f : fitL l = true
    · rw [if_pos f] at h ⊢
      unfold decL at d
      rw [Bool.and_eq_true, Bool.not_eq_true', Bool.and_eq_false_iff] at d
      have hd := dec_nat _ _ (Nat.le_refl _) d.1
      by_cases a : negL l = true
      · rw [if_pos a]
        have z : digL l ≠ [48] := by
          rcases d.2 with q | q
          · rw [a] at q; cases q
          · simpa using q
        have nz : natV 0 (digL l) ≠ 0 := fun e => by
          rw [e, dec_small (by omega)] at hd
          exact z hd.symm
        have e : Lib.itoa (-(natV 0 (digL l) : Int)) = 45 :: Lib.decDigits (natV 0 (digL l)) := by
          unfold Lib.itoa; rw [if_pos (by omega)]; simp
        rw [e, hd]
        unfold digL
        rw [if_pos a]
        unfold negL at a
        cases l with
        | nil => cases a
        | cons x r => simp at a; simp [a]
      · rw [if_neg a]
        have e : Lib.itoa (natV 0 (digL l) : Int) = Lib.decDigits (natV 0 (digL l)) := by
          unfold Lib.itoa; rw [if_neg (by omega)]; simp
        rw [e, hd]
        unfold digL
        rw [if_neg a]
    · rw [if_neg f] at h; cases h
  · rw [if_neg d] at h; cases h
/-- strconv's reading of a text that is a decimal form. -/
theorem parse_dig : ∀ (l : List UInt8) (acc : Nat), l.all isD = true → acc < 18446744073709551616 → Lib.parseUint10 acc l = if natV acc l < 18446744073709551616 then .ok (natV acc l) else .range
  | [], acc, _, h => by rw [Lib.parseUint10, natV_nil, if_pos h]
  | c :: r, acc, ha, h => by
    rw [List.all_cons, Bool.and_eq_true] at ha
    obtain ⟨d, d1, d2, _, d4⟩ := isD_inv ha.1
    rw [Lib.parseUint10, natV_cons, if_pos (by omega), d2]
    have hg := natV_ge r (acc * 10 + d)
    by_cases h1 : 1844674407370955162 ≤ acc
    · rw [if_pos h1, if_neg (by omega)]
    · rw [if_neg h1]
      by_cases h2 : 18446744073709551616 ≤ acc * 10 + d
      · rw [if_pos h2, if_neg (by omega)]
      · rw [if_neg h2]
        exact parse_dig r _ ha.2 (by omega)
theorem natL_ne {l : List UInt8} (h : natL l = true) : l ≠ [] := fun e => by rw [e] at h; cases h
theorem natL_all {l : List UInt8} (h : natL l = true) : l.all isD = true := by unfold natL at h; rw [Bool.and_eq_true] at h; exact h.1
theorem atoi_dec {l : List UInt8} (h : decL l = true) : Lib.atoiAll l = if fitL l = true then .ok (takeV l) else .range := by
  have hn : natL (digL l) = true := by unfold decL at h; rw [Bool.and_eq_true] at h; exact h.1
  have ha := natL_all hn
  have hp := parse_dig (digL l) 0 ha (by omega)
  have hv : fitL l = true → takeV l = if negL l = true then -(natV 0 (digL l) : Int) else natV 0 (digL l) := fun f => by unfold takeV; rw [if_pos h, if_pos f]
  cases l with
  | nil => cases h
  | cons c r =>
    rw [Lib.atoiAll]
    have e45 : (negL (c :: r) = true) ↔ c.toNat = 45 := by
      unfold negL
      rw [decide_eq_true_eq, List.head?_cons, Option.some.injEq]
      exact ⟨fun e => by rw [e]; rfl, fun e => UInt8.toNat.inj e⟩
    have eD : (if c.toNat = 43 ∨ c.toNat = 45 then r else c :: r) = digL (c :: r) := by
      unfold digL
      by_cases q : c.toNat = 45
      · rw [if_pos (.inr q), if_pos (e45.2 q)]; rfl
      · have z : ¬ negL (c :: r) = true := fun z => q (e45.1 z)
        rw [if_neg z]
        refine if_neg fun q' => ?_
        rcases q' with q' | q'
        · have : digL (c :: r) = c :: r := by unfold digL; rw [if_neg z]
          rw [this, List.all_cons, Bool.and_eq_true] at ha
          obtain ⟨d, _, _, _, d4⟩ := isD_inv ha.1
          omega
        · exact q q'
    rw [eD]
    unfold Lib.parseMag
    rw [if_neg (natL_ne hn), hp]
    by_cases q : c.toNat = 45
    · have z := e45.2 q
      have hf : fitL (c :: r) = decide (natV 0 (digL (c :: r)) ≤ 9223372036854775808) := by unfold fitL; rw [if_pos z]
      rw [if_pos z] at hv
      generalize natV 0 (digL (c :: r)) = v at *
      by_cases h1 : v < 18446744073709551616
      · simp only [if_pos h1, q, not_true_eq_false, false_and, if_false, true_and, if_true]
        by_cases h2 : 9223372036854775808 < v
        · rw [if_pos h2, if_neg (by rw [hf, decide_eq_true_eq]; omega)]
        · have f : fitL (c :: r) = true := by rw [hf, decide_eq_true_eq]; omega
          rw [if_neg h2, if_pos f, hv f]
      · simp only [if_neg h1]
        rw [if_neg (by rw [hf, decide_eq_true_eq]; omega)]
    · have z : ¬ negL (c :: r) = true := fun z => q (e45.1 z)
      have hf : fitL (c :: r) = decide (natV 0 (digL (c :: r)) ≤ 9223372036854775807) := by unfold fitL; rw [if_neg z]
      rw [if_neg z] at hv
      generalize natV 0 (digL (c :: r)) = v at *
      by_cases h1 : v < 18446744073709551616
      · simp only [if_pos h1, q, not_false_eq_true, true_and, if_false, false_and]
        by_cases h2 : 9223372036854775808 ≤ v
        · rw [if_pos h2, if_neg (by rw [hf, decide_eq_true_eq]; omega)]
        · have f : fitL (c :: r) = true := by rw [hf, decide_eq_true_eq]; omega
          rw [if_neg h2, if_pos f, hv f]
      · simp only [if_neg h1]
        rw [if_neg (by rw [hf, decide_eq_true_eq]; omega)]
/-- wire.decimal's tests. -/
theorem decL_bad {l : List UInt8} (h : digL l = [] ∨ ((digL l).head? = some 48 ∧ 1 < l.length)) : decL l = false := by
  unfold decL
  rcases h with h | ⟨h1, h2⟩
  · rw [h]; rfl
  · cases q : digL l with
    | nil => rfl
    | cons a r =>
      rw [q] at h1
      simp only [List.head?_cons, Option.some.injEq] at h1
      subst h1
      unfold natL
      cases r with
      | nil =>
        by_cases z : negL l = true
        · rw [z]; rfl
        · exfalso
          unfold digL at q
          rw [if_neg z] at q
          rw [q] at h2
          simp at h2
      | cons b r => simp
theorem decL_good {l : List UInt8} (h1 : digL l ≠ []) (h2 : ¬ ((digL l).head? = some 48 ∧ 1 < l.length)) : decL l = (digL l).all isD := by
  unfold decL natL
  by_cases q : (digL l).head? = some 48
  · have hl : ¬ 1 < l.length := fun z => h2 ⟨q, z⟩
    have z : ¬ negL l = true := fun z => by
      unfold digL at h1
      rw [if_pos z] at h1
      exact h1 (by rw [List.drop_of_length_le (by omega)])
    have e : digL l = l := by unfold digL; rw [if_neg z]
    rw [e] at h1 q ⊢
    have z' : negL l = false := by simpa using z
    cases l with
    | nil => exact absurd rfl h1
    | cons a r =>
      cases r with
      | cons b r => exact absurd (by simp) hl
      | nil =>
        simp only [List.head?_cons, Option.some.injEq] at q
        subst q
        rw [z']; rfl
  · cases w : digL l with
    | nil => exact absurd w h1
    | cons a r =>
      rw [w] at q
      have e : ¬ (a :: r) = [48] := fun e => by rw [e] at q; exact q rfl
      simp only [List.head?_cons] at q
      simp [e, q]
end Go.Proofs.YtfpknhhhjgdjbaaDoor
namespace Go.Proofs.YtfpknhhhjgdjbaaDoor
open Go.RowKit
set_option maxRecDepth 100000

/-- The bytes ahead of the first colon. -/
def cutL : List UInt8 → List UInt8
  | [] => []
  | c :: r => if c = 58 then [] else c :: cutL r
theorem cut_le : ∀ s : List UInt8, (cutL s).length ≤ s.length
  | [] => Nat.le_refl _
  | c :: r => by
    rw [cutL]
    split
    · simp
    · have := cut_le r
      simp; omega
theorem cut_app : ∀ (a b : List UInt8), (∀ c ∈ a, c ≠ 58) → cutL (a ++ 58 :: b) = a
  | [], b, _ => by rw [List.nil_append, cutL, if_pos rfl]
  | c :: a, b, h => by
    rw [List.cons_append, cutL, if_neg (h c (by simp)), cut_app a b fun x hx => h x (by simp [hx])]
theorem cut_none : ∀ (a : List UInt8), (∀ c ∈ a, c ≠ 58) → cutL a = a
  | [], _ => rfl
  | c :: a, h => by
    rw [cutL, if_neg (h c (by simp)), cut_none a fun x hx => h x (by simp [hx])]
theorem cut_ne : ∀ (s : List UInt8), ∀ c ∈ cutL s, c ≠ 58
  | [], c, h => by cases h
  | x :: r, c, h => by
    rw [cutL] at h
    split at h
    · cases h
    · rename_i hx
      rcases List.mem_cons.1 h with rfl | h
      · exact hx
      · exact cut_ne r c h
theorem cut_split : ∀ (s : List UInt8), (cutL s).length < s.length → s = cutL s ++ 58 :: s.drop ((cutL s).length + 1)
  | [], h => by cases h
  | c :: r, h => by
    rw [cutL] at h ⊢
    by_cases hc : c = 58
    · rw [if_pos hc, hc]; rfl
    · rw [if_neg hc] at h ⊢
      have := cut_split r (by simpa using h)
      rw [List.length_cons, List.drop_succ_cons, List.cons_append, ← this]
theorem cut_prefix (a b : List UInt8) (h : ∀ c ∈ a, c ≠ 58) : ∃ q, cutL (a ++ b) = a ++ q := by
  induction a with
  | nil => exact ⟨cutL b, rfl⟩
  | cons x a ih =>
    obtain ⟨q, hq⟩ := ih fun c hc => h c (by simp [hc])
    exact ⟨q, by rw [List.cons_append, cutL, if_neg (h x (by simp)), hq, List.cons_append]⟩

/-- The length at the beginning of an encoding. -/
def lenF (s : List UInt8) : Option Nat := if (cutL s).length < s.length ∧ natL (cutL s) = true ∧ natV 0 (cutL s) ≤ 16384 then some (natV 0 (cutL s)) else none
def headN (s : List UInt8) : Nat := (cutL s).length + 1
def textF (s : List UInt8) (n : Nat) : ByteArray := ⟨((s.take (headN s + n)).drop (headN s)).toArray⟩
def restF (s : List UInt8) (n : Nat) : List UInt8 := s.drop (headN s + n)
/-- The texts with an encoding, or the error. -/
def unpF (s : List UInt8) : List ByteArray × Int :=
  if _h : s = [] then ([], 0) else
  match lenF s with
  | none => ([], 2)
  | some n => if s.length < headN s + n then ([], 24) else
    if (unpF (restF s n)).2 = 0 then (textF s n :: (unpF (restF s n)).1, 0) else ([], (unpF (restF s n)).2)
termination_by s.length
decreasing_by all_goals
  have := List.length_pos_iff.2 _h
  rw [restF, List.length_drop, headN]
  omega
def comb (acc : List ByteArray) (p : List ByteArray × Int) : List ByteArray × Int := if p.2 = 0 then (acc ++ p.1, 0) else ([], p.2)
theorem unp_nil : unpF [] = ([], 0) := by rw [unpF, dif_pos rfl]
theorem unp_syntax {s : List UInt8} (h0 : s ≠ []) (h : lenF s = none) : unpF s = ([], 2) := by rw [unpF, dif_neg h0, h]
theorem unp_trunc {s : List UInt8} {n : Nat} (h0 : s ≠ []) (h : lenF s = some n) (h1 : s.length < headN s + n) : unpF s = ([], 24) := by rw [unpF, dif_neg h0, h]; exact if_pos h1
theorem unp_one {s : List UInt8} {n : Nat} (h0 : s ≠ []) (h : lenF s = some n) (h1 : ¬ s.length < headN s + n) : unpF s = comb [textF s n] (unpF (restF s n)) := by
  rw [unpF, dif_neg h0, h]
  show (if s.length < headN s + n then _ else _) = _
  rw [if_neg h1]
  rfl
theorem comb_nil (p : List ByteArray × Int) (hp : p.2 = 0 ∨ p.1 = []) : comb [] p = p := by
  unfold comb
  obtain ⟨a, e⟩ := p
  dsimp only at *
  split
  · rename_i h; rw [h, List.nil_append]
  · rename_i h
    rcases hp with hp | hp
    · exact absurd hp h
    · rw [hp]
theorem comb_comb (a b : List ByteArray) (p : List ByteArray × Int) : comb a (comb b p) = comb (a ++ b) p := by
  unfold comb
  by_cases h : p.2 = 0
  · rw [if_pos h, if_pos rfl, if_pos h, List.append_assoc]
  · rw [if_neg h, if_neg h, if_neg h]
theorem comb_good (a : List ByteArray) : comb a ([], 0) = (a, 0) := by unfold comb; rw [if_pos rfl, List.append_nil]
theorem comb_bad (a : List ByteArray) (e : Int) (h : e ≠ 0) : comb a ([], e) = ([], e) := by unfold comb; rw [if_neg h]
theorem unp_cases : ∀ (n : Nat) (s : List UInt8), s.length ≤ n → (unpF s).2 = 0 ∨ (unpF s).1 = [] ∧ ((unpF s).2 = 2 ∨ (unpF s).2 = 24)
  | 0, s, h => by
    have : s = [] := List.eq_nil_of_length_eq_zero (by omega)
    subst this
    rw [unp_nil]; exact .inl rfl
  | n + 1, s, h => by
    by_cases h0 : s = []
    · subst h0; rw [unp_nil]; exact .inl rfl
    · cases h1 : lenF s with
      | none => rw [unp_syntax h0 h1]; exact .inr ⟨rfl, .inl rfl⟩
      | some m =>
        by_cases h2 : s.length < headN s + m
        · rw [unp_trunc h0 h1 h2]; exact .inr ⟨rfl, .inr rfl⟩
        · rw [unp_one h0 h1 h2]
          have := List.length_pos_iff.2 h0
          rcases unp_cases n (restF s m) (by rw [restF, List.length_drop, headN]; omega) with h3 | ⟨h3, h4⟩
          · unfold comb; rw [if_pos h3]; exact .inl rfl
          · unfold comb
            rw [if_neg (by rcases h4 with h4 | h4 <;> rw [h4] <;> decide)]
            exact .inr ⟨rfl, h4⟩
theorem unp_comb (s : List UInt8) : comb [] (unpF s) = unpF s := comb_nil _ ((unp_cases _ s (Nat.le_refl _)).imp id fun h => h.1)
/-- One round of reading. -/
theorem unp_next {s S : List UInt8} {acc : List ByteArray} {n : Nat} (h0 : s ≠ []) (h : lenF s = some n) (h1 : ¬ s.length < headN s + n) (hv : unpF S = comb acc (unpF s)) : unpF S = comb (acc ++ [textF s n]) (unpF (restF s n)) := by
  rw [hv, unp_one h0 h h1, comb_comb]
theorem unp_end {S : List UInt8} {acc : List ByteArray} (hv : unpF S = comb acc (unpF [])) : unpF S = (acc, 0) := by rw [hv, unp_nil, comb_good]
theorem unp_stop2 {s S : List UInt8} {acc : List ByteArray} (h0 : s ≠ []) (h : lenF s = none) (hv : unpF S = comb acc (unpF s)) : unpF S = ([], 2) := by rw [hv, unp_syntax h0 h, comb_bad _ _ (by decide)]
theorem unp_stop24 {s S : List UInt8} {acc : List ByteArray} {n : Nat} (h0 : s ≠ []) (h : lenF s = some n) (h1 : s.length < headN s + n) (hv : unpF S = comb acc (unpF s)) : unpF S = ([], 24) := by rw [hv, unp_trunc h0 h h1, comb_bad _ _ (by decide)]
theorem text_size {s : List UInt8} {n : Nat} (h1 : ¬ s.length < headN s + n) : (textF s n).size = n := by
  unfold textF
  rw [← ByteArray.size_data]
  simp
  omega
theorem lenF_le {s : List UInt8} {n : Nat} (h : lenF s = some n) : n ≤ 16384 ∧ headN s ≤ s.length := by
  unfold lenF at h
  split at h
  · rename_i q
    injection h with h
    unfold headN
    omega
  · cases h
theorem unp_len : ∀ (n : Nat) (s : List UInt8), s.length ≤ n → (unpF s).1.length ≤ s.length
  | 0, s, h => by
    have : s = [] := List.eq_nil_of_length_eq_zero (by omega)
    subst this
    rw [unp_nil]; simp
  | n + 1, s, h => by
    by_cases h0 : s = []
    · subst h0; rw [unp_nil]; simp
    · cases h1 : lenF s with
      | none => rw [unp_syntax h0 h1]; simp
      | some m =>
        by_cases h2 : s.length < headN s + m
        · rw [unp_trunc h0 h1 h2]; simp
        · rw [unp_one h0 h1 h2]
          have h4 : (restF s m).length + headN s + m = s.length := by rw [restF, List.length_drop]; omega
          have h5 : 1 ≤ headN s := by unfold headN; omega
          have := unp_len n (restF s m) (by omega)
          unfold comb
          split
          · simp; omega
          · simp
theorem unp_sizes : ∀ (n : Nat) (s : List UInt8), s.length ≤ n → ∀ t ∈ (unpF s).1, t.size ≤ 16384
  | 0, s, h, t, ht => by
    have : s = [] := List.eq_nil_of_length_eq_zero (by omega)
    subst this
    rw [unp_nil] at ht; cases ht
  | n + 1, s, h, t, ht => by
    by_cases h0 : s = []
    · subst h0; rw [unp_nil] at ht; cases ht
    · cases h1 : lenF s with
      | none => rw [unp_syntax h0 h1] at ht; cases ht
      | some m =>
        by_cases h2 : s.length < headN s + m
        · rw [unp_trunc h0 h1 h2] at ht; cases ht
        · rw [unp_one h0 h1 h2] at ht
          unfold comb at ht
          have h5 : 1 ≤ headN s := by unfold headN; omega
          split at ht
          · rcases List.mem_append.1 ht with ht | ht
            · simp only [List.mem_singleton] at ht
              rw [ht, text_size h2]; exact (lenF_le h1).1
            · exact unp_sizes n (restF s m) (by rw [restF, List.length_drop]; omega) t ht
          · cases ht

theorem dec_ne58 (u : Nat) : ∀ c ∈ Lib.decDigits u, c ≠ 58 := by
  intro c hc e
  have h := List.all_eq_true.1 (dec_all u u (Nat.le_refl _)) c hc
  subst e
  simp [isD] at h
theorem unp_pack : ∀ (l : List ByteArray), (∀ s ∈ l, s.size ≤ 16384) → unpF (packB l) = (l, 0)
  | [], _ => by
    show unpF [] = _
    exact unp_nil
  | s :: l, h => by
    have e := packB_cons s l
    have hc : cutL (packB (s :: l)) = Lib.decDigits s.size := by rw [e]; exact cut_app _ _ (dec_ne58 _)
    have hs := h s (by simp)
    have hl : (packB (s :: l)).length = (Lib.decDigits s.size).length + 1 + s.size + (packB l).length := by
      rw [e]; simp; omega
    have h1 : lenF (packB (s :: l)) = some s.size := by
      unfold lenF
      rw [hc, natL_dec, dec_val _ _ (Nat.le_refl _), if_pos ⟨by omega, rfl, hs⟩]
    have hn : headN (packB (s :: l)) = (Lib.decDigits s.size).length + 1 := by unfold headN; rw [hc]
    have h0 : packB (s :: l) ≠ [] := fun z => by rw [z] at hl; simp at hl; omega
    have e2 : packB (s :: l) = (Lib.decDigits s.size ++ [58]) ++ (s.data.toList ++ packB l) := by rw [e]; simp
    have hd : (Lib.decDigits s.size ++ [58]).length = headN (packB (s :: l)) := by rw [hn]; simp
    have ht : textF (packB (s :: l)) s.size = s := by
      unfold textF
      rw [← hd]
      conv => lhs; rw [e2]
      rw [List.take_append, List.take_of_length_le (by omega), List.drop_append, List.drop_of_length_le (Nat.le_refl _), List.nil_append, Nat.sub_self, List.drop_zero, Nat.add_sub_cancel_left, List.take_append_of_le_length (by rw [size_toList]; exact Nat.le_refl _), List.take_of_length_le (by rw [size_toList]; exact Nat.le_refl _)]
    have hr : restF (packB (s :: l)) s.size = packB l := by
      unfold restF
      rw [← hd]
      conv => lhs; rw [e2]
      rw [List.drop_append, List.drop_of_length_le (by omega), List.nil_append, Nat.add_sub_cancel_left, List.drop_append, List.drop_of_length_le (by rw [size_toList]; exact Nat.le_refl _), size_toList, Nat.sub_self]; rfl
    rw [unp_one h0 h1 (by omega), ht, hr, unp_pack l fun x hx => h x (by simp [hx])]
    rfl
theorem pack_unp : ∀ (n : Nat) (s : List UInt8), s.length ≤ n → (unpF s).2 = 0 → packB (unpF s).1 = s
  | 0, s, h, _ => by
    have : s = [] := List.eq_nil_of_length_eq_zero (by omega)
    subst this
    rw [unp_nil]; rfl
  | n + 1, s, h, he => by
    by_cases h0 : s = []
    · subst h0; rw [unp_nil]; rfl
    · cases h1 : lenF s with
      | none => rw [unp_syntax h0 h1] at he; cases he
      | some m =>
        by_cases h2 : s.length < headN s + m
        · rw [unp_trunc h0 h1 h2] at he; cases he
        · have h5 : 1 ≤ headN s := by unfold headN; omega
          have hrl : (restF s m).length ≤ n := by rw [restF, List.length_drop]; omega
          rw [unp_one h0 h1 h2] at he ⊢
          unfold comb at he ⊢
          by_cases h3 : (unpF (restF s m)).2 = 0
          · rw [if_pos h3]
            show packB (textF s m :: (unpF (restF s m)).1) = s
            rw [packB_cons, text_size h2, pack_unp n _ hrl h3]
            unfold lenF at h1
            split at h1
            · rename_i q
              injection h1 with h1
              have hd := dec_nat _ _ (Nat.le_refl _) q.2.1
              rw [h1] at hd
              rw [hd]
              have hsp := cut_split s q.1
              conv => rhs; rw [hsp]
              congr 2
              show ((s.take (headN s + m)).drop (headN s)) ++ s.drop (headN s + m) = s.drop (headN s)
              rw [← List.drop_drop, List.drop_take, Nat.add_sub_cancel_left, List.take_append_drop]
            · cases h1
          · rw [if_neg h3] at he; exact absurd he h3

/-- The numbers with decimal forms, or the first error. -/
def takes : List ByteArray → List Int × Int
  | [] => ([], 0)
  | t :: r => if takeE t.data.toList = 0 then (if (takes r).2 = 0 then (takeV t.data.toList :: (takes r).1, 0) else ([], (takes r).2)) else ([], takeE t.data.toList)
def combI (acc : List Int) (p : List Int × Int) : List Int × Int := if p.2 = 0 then (acc ++ p.1, 0) else ([], p.2)
theorem combI_comb (a b : List Int) (p : List Int × Int) : combI a (combI b p) = combI (a ++ b) p := by
  unfold combI
  by_cases h : p.2 = 0
  · rw [if_pos h, if_pos rfl, if_pos h, List.append_assoc]
  · rw [if_neg h, if_neg h, if_neg h]
theorem takes_bad : ∀ (l : List ByteArray), (takes l).2 = 0 ∨ (takes l).1 = []
  | [] => .inl rfl
  | t :: r => by
    unfold takes
    split
    · split
      · exact .inl rfl
      · exact .inr rfl
    · exact .inr rfl
theorem takes_comb (l : List ByteArray) : combI [] (takes l) = takes l := by
  unfold combI
  rcases takes_bad l with h | h
  · rw [if_pos h, List.nil_append]
    exact Prod.ext rfl h.symm
  · by_cases h2 : (takes l).2 = 0
    · rw [if_pos h2, List.nil_append]
      exact Prod.ext rfl h2.symm
    · rw [if_neg h2]
      exact Prod.ext h.symm rfl
theorem takes_next {L : List ByteArray} {T : List Int × Int} {k : Nat} {t : ByteArray} {acc : List Int} (e : L[k]? = some t) (h : takeE t.data.toList = 0) (hv : T = combI acc (takes (L.drop k))) : T = combI (acc ++ [takeV t.data.toList]) (takes (L.drop (k + 1))) := by
  obtain ⟨h1, rfl⟩ := List.getElem?_eq_some_iff.1 e
  rw [hv, List.drop_eq_getElem_cons h1, takes, if_pos h, ← combI_comb]
  rfl
theorem takes_stop {L : List ByteArray} {T : List Int × Int} {k : Nat} {t : ByteArray} {acc : List Int} (e : L[k]? = some t) (h : takeE t.data.toList ≠ 0) (hv : T = combI acc (takes (L.drop k))) : T = ([], takeE t.data.toList) := by
  obtain ⟨h1, rfl⟩ := List.getElem?_eq_some_iff.1 e
  rw [hv, List.drop_eq_getElem_cons h1, takes, if_neg h]
  unfold combI
  rw [if_neg h]
theorem takes_end {L : List ByteArray} {T : List Int × Int} {k : Nat} {acc : List Int} (h : L.length ≤ k) (hv : T = combI acc (takes (L.drop k))) : T = (acc, 0) := by
  rw [hv, List.drop_of_length_le h]
  unfold combI takes
  rw [if_pos rfl, List.append_nil]
def takeIntsF (s : List UInt8) (most : Int) : List Int × Int := if (unpF s).2 = 0 then (if most < (unpF s).1.length then ([], 5) else takes (unpF s).1) else ([], (unpF s).2)
theorem takes_itoa : ∀ (m : List Int), (∀ n ∈ m, -9223372036854775808 ≤ n ∧ n ≤ 9223372036854775807) → takes (itoaBs m) = (m, 0)
  | [], _ => rfl
  | n :: m, h => by
    obtain ⟨h1, h2⟩ := take_itoa n (h n (by simp)).1 (h n (by simp)).2
    have ih := takes_itoa m fun x hx => h x (by simp [hx])
    show takes (⟨(Lib.itoa n).toArray⟩ :: itoaBs m) = _
    rw [takes, ih]
    show (if takeE (Lib.itoa n) = 0 then _ else _) = _
    rw [if_pos h1, if_pos rfl]
    show (takeV (Lib.itoa n) :: m, (0 : Int)) = _
    rw [h2]
theorem itoa_takes : ∀ (l : List ByteArray), (takes l).2 = 0 → itoaBs (takes l).1 = l
  | [], _ => rfl
  | t :: r, h => by
    unfold takes at h ⊢
    by_cases h1 : takeE t.data.toList = 0
    · rw [if_pos h1] at h ⊢
      by_cases h2 : (takes r).2 = 0
      · rw [if_pos h2]
        show (⟨(Lib.itoa (takeV t.data.toList)).toArray⟩ : ByteArray) :: itoaBs (takes r).1 = _
        rw [itoa_take h1, itoa_takes r h2]
      · rw [if_neg h2] at h; exact absurd h h2
    · rw [if_neg h1] at h; exact absurd h h1
theorem takes_i64 : ∀ (l : List ByteArray), ∀ n ∈ (takes l).1, -9223372036854775808 ≤ n ∧ n ≤ 9223372036854775807
  | [], n, h => by cases h
  | t :: r, n, h => by
    unfold takes at h
    split at h
    · split at h
      · rcases List.mem_cons.1 h with rfl | h
        · exact takeV_bounds _
        · exact takes_i64 r n h
      · cases h
    · cases h
theorem takes_len : ∀ (l : List ByteArray), (takes l).1.length ≤ l.length
  | [] => Nat.le_refl _
  | t :: r => by
    unfold takes
    split
    · split
      · have := takes_len r
        simp; omega
      · simp
    · simp
end Go.Proofs.YtfpknhhhjgdjbaaDoor
