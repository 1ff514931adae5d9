/-
  Amounts, written and read: plain functions and their laws. Conditions: those that each theorem states (no program in it).
-/
import Derived.Test.YtaphbajfjmhpnaaDoorNum7
import Derived.Test.YtaphbajfjmhpnaaDoorCon
import Derived.Sort.Walk0
namespace Go.Proofs.YtaphbajfjmhpnaaDoor
open Go.RowKit
set_option maxRecDepth 100000

def valid3 (a : Int) : Bool := decide (-1000000000000 ≤ a) && decide (a ≤ 1000000000000)
theorem valid3_iff {a : Int} : valid3 a = true ↔ -1000000000000 ≤ a ∧ a ≤ 1000000000000 := by unfold valid3; rw [Bool.and_eq_true, decide_eq_true_eq, decide_eq_true_eq]
theorem valid3_no {a : Int} : valid3 a = false ↔ a < -1000000000000 ∨ 1000000000000 < a := by
  rw [← Bool.not_eq_true, valid3_iff]; omega
def isU (c : UInt8) : Bool := decide (65 ≤ c.toNat) && decide (c.toNat ≤ 90)
def codeB (l : List UInt8) : Bool := decide (l.length = 3) && l.all isU
def addV (a b : Int) : Int := if valid3 a && valid3 b && valid3 (a + b) then a + b else 0
def addE (a b : Int) : Int := if valid3 a && valid3 b then (if valid3 (a + b) then 0 else 6) else 1
theorem addV_comm (a b : Int) : addV a b = addV b a := by unfold addV; rw [Int.add_comm b a, Bool.and_comm (valid3 a)]
theorem addE_comm (a b : Int) : addE a b = addE b a := by unfold addE; rw [Int.add_comm b a, Bool.and_comm (valid3 a)]
def sumV (l : List Int) : Int := if l.length ≤ 4096 then (if l.all valid3 = true then (if valid3 l.sum = true then l.sum else 0) else 0) else 0
def sumE (l : List Int) : Int := if l.length ≤ 4096 then (if l.all valid3 = true then (if valid3 l.sum = true then 0 else 6) else 1) else 5
theorem sum_rev (l : List Int) : l.reverse.sum = l.sum := by
  induction l with
  | nil => rfl
  | cons a l ih => rw [List.reverse_cons, List.sum_append, ih, List.sum_cons, List.sum_cons, List.sum_nil]; omega
theorem sumV_rev (l : List Int) : sumV l.reverse = sumV l := by unfold sumV; rw [List.length_reverse, List.all_reverse, sum_rev]
theorem sumE_rev (l : List Int) : sumE l.reverse = sumE l := by unfold sumE; rw [List.length_reverse, List.all_reverse, sum_rev]

/-! Currencies. -/
structure CurV where
  code : ByteArray
  digits : Int
def leS (a b : ByteArray) : Bool := Op.bytesLess a.data.toList b.data.toList || decide (a = b)
def placesB (d : Int) : Bool := decide (0 ≤ d) && decide (d ≤ 4)
theorem placesB_iff {a : Int} : placesB a = true ↔ 0 ≤ a ∧ a ≤ 4 := by unfold placesB; rw [Bool.and_eq_true, decide_eq_true_eq, decide_eq_true_eq]
theorem placesB_no {a : Int} : placesB a = false ↔ a < 0 ∨ 4 < a := by
  rw [← Bool.not_eq_true, placesB_iff]; omega
def oLe (p : Option ByteArray) (c : ByteArray) : Bool := match p with
  | none => false
  | some q => leS c q
def chk : Option ByteArray → List CurV → Int
  | _, [] => 0
  | p, c :: r => if codeB c.code.data.toList = true then (if placesB c.digits = true then (if oLe p c.code = true then 10 else chk (some c.code) r) else 1) else 4
def prevOf (l : List CurV) (k : Nat) : Option ByteArray := if k = 0 then none else (l[k - 1]?).map CurV.code
def checkE (l : List CurV) : Int := if 1 ≤ l.length ∧ l.length ≤ 8 then chk none l else 5
def curFind (l : List CurV) (code : ByteArray) : Option CurV := l.find? fun c => decide (c.code = code)
def curC (c : CurV) : List AV := [.ex (.string c.code), .ex (.int .i64 c.digits)]
def curs (l : List CurV) : List (List AV) := l.map curC
def zeroCur : CurV := ⟨⟨#[]⟩, 0⟩
def findC (l : List CurV) (code : ByteArray) : CurV := (curFind l code).getD zeroCur
def findB (l : List CurV) (code : ByteArray) : Bool := (curFind l code).isSome
theorem chk_next {l : List CurV} {k : Nat} {c : CurV} {E : Int} (e : l[k]? = some c) (h : E = chk (prevOf l k) (l.drop k)) (h1 : codeB c.code.data.toList = true) (h2 : placesB c.digits = true) (h3 : ∀ q, prevOf l k = some q → leS c.code q = false) : E = chk (prevOf l (k + 1)) (l.drop (k + 1)) := by
  obtain ⟨hk, hc⟩ := List.getElem?_eq_some_iff.1 e
  rw [h, List.drop_eq_getElem_cons hk, hc, chk, if_pos h1, if_pos h2]
  have h4 : oLe (prevOf l k) c.code = false := by
    unfold oLe
    split
    · rfl
    · exact h3 _ (by assumption)
  rw [if_neg (by rw [h4]; simp)]
  congr 1
  unfold prevOf
  rw [if_neg (by omega), Nat.add_sub_cancel, e]; rfl
theorem chk_code {l : List CurV} {k : Nat} {c : CurV} {E : Int} (e : l[k]? = some c) (h : E = chk (prevOf l k) (l.drop k)) (h1 : codeB c.code.data.toList = false) : E = 4 := by
  obtain ⟨hk, hc⟩ := List.getElem?_eq_some_iff.1 e
  rw [h, List.drop_eq_getElem_cons hk, hc, chk, if_neg (by rw [h1]; simp)]
theorem chk_places {l : List CurV} {k : Nat} {c : CurV} {E : Int} (e : l[k]? = some c) (h : E = chk (prevOf l k) (l.drop k)) (h1 : codeB c.code.data.toList = true) (h2 : placesB c.digits = false) : E = 1 := by
  obtain ⟨hk, hc⟩ := List.getElem?_eq_some_iff.1 e
  rw [h, List.drop_eq_getElem_cons hk, hc, chk, if_pos h1, if_neg (by rw [h2]; simp)]
theorem chk_order {l : List CurV} {k : Nat} {c : CurV} {q : ByteArray} {E : Int} (e : l[k]? = some c) (h : E = chk (prevOf l k) (l.drop k)) (h1 : codeB c.code.data.toList = true) (h2 : placesB c.digits = true) (hq : prevOf l k = some q) (h3 : leS c.code q = true) : E = 10 := by
  obtain ⟨hk, hc⟩ := List.getElem?_eq_some_iff.1 e
  rw [h, List.drop_eq_getElem_cons hk, hc, chk, if_pos h1, if_pos h2, hq]
  exact if_pos h3
theorem chk_end {l : List CurV} {k : Nat} {E : Int} (hk : l.length ≤ k) (h : E = chk (prevOf l k) (l.drop k)) : E = 0 := by
  rw [h, List.drop_of_length_le hk]
  rfl
/-- The order of texts. -/
theorem leS_irrefl (a : ByteArray) : leS a a = true := by unfold leS; rw [decide_eq_true rfl, Bool.or_true]
theorem less_trans {a b c : List UInt8} (h1 : a < b) (h2 : b < c) : a < c := List.lt_trans h1 h2
theorem not_le {a b : ByteArray} (h : leS a b = false) : b.data.toList < a.data.toList := by
  unfold leS at h
  rw [Bool.or_eq_false_iff, bytesLess_eq, decide_eq_false_iff_not, decide_eq_false_iff_not] at h
  have h1 : ¬ a.data.toList = b.data.toList := fun e => h.2 (ByteArray.ext (Array.ext' e))
  refine List.not_le.1 fun h2 => h1 ?_
  exact List.le_antisymm h2 (List.not_lt.1 h.1)
theorem chk_all : ∀ (l : List CurV) (p : Option ByteArray), chk p l = 0 → (∀ q, p = some q → ∀ c ∈ l, q.data.toList < c.code.data.toList) ∧ ∀ i j : Nat, ∀ a b : CurV, i < j → l[i]? = some a → l[j]? = some b → a.code.data.toList < b.code.data.toList
  | [], _, _ => ⟨fun _ _ c hc => absurd hc List.not_mem_nil, fun i j a b _ ha _ => by rw [List.getElem?_nil] at ha; exact nomatch ha⟩
  | c :: r, p, h => by
    unfold chk at h
    split at h
    · split at h
      · split at h
        · cases h
        · rename_i hle
          unfold oLe at hle
          obtain ⟨g1, g2⟩ := chk_all r (some c.code) h
          have g3 := g1 c.code rfl
          refine ⟨fun q hq x hx => ?_, fun i j a b hij ha hb => ?_⟩
          · subst hq
            have hc := not_le (by simpa using hle)
            rcases List.mem_cons.1 hx with rfl | hx
            · exact hc
            · exact less_trans hc (g3 x hx)
          · cases j with
            | zero => omega
            | succ j =>
              cases i with
              | zero =>
                simp at ha hb
                subst ha
                exact g3 b (List.mem_of_getElem? hb)
              | succ i =>
                simp at ha hb
                exact g2 i j a b (by omega) ha hb
      · cases h
    · cases h
theorem find_at {l : List CurV} {k : Nat} {c : CurV} (h : chk none l = 0) (e : l[k]? = some c) : curFind l c.code = some c := by
  obtain ⟨_, g⟩ := chk_all l none h
  unfold curFind
  rw [List.find?_eq_some_iff_getElem]
  obtain ⟨hk, hc⟩ := List.getElem?_eq_some_iff.1 e
  refine ⟨by simp, k, hk, hc, fun j hj => ?_⟩
  have hlt := g j k l[j] c hj (List.getElem?_eq_getElem (by omega)) e
  simp only [Bool.not_eq_true', decide_eq_false_iff_not]
  intro he
  rw [he] at hlt
  exact List.lt_irrefl _ hlt
theorem cfind_next {l : List CurV} {k : Nat} {c : CurV} {code : ByteArray} {F : Option CurV} (e : l[k]? = some c) (h : F = curFind (l.drop k) code) (hc : ¬ c.code = code) : F = curFind (l.drop (k + 1)) code := by
  obtain ⟨hk, he⟩ := List.getElem?_eq_some_iff.1 e
  rw [h, List.drop_eq_getElem_cons hk, he]
  unfold curFind
  rw [List.find?_cons_of_neg (by simpa using hc)]
theorem cfind_stop {l : List CurV} {k : Nat} {c : CurV} {code : ByteArray} {F : Option CurV} (e : l[k]? = some c) (h : F = curFind (l.drop k) code) (hc : c.code = code) : F = some c := by
  obtain ⟨hk, he⟩ := List.getElem?_eq_some_iff.1 e
  rw [h, List.drop_eq_getElem_cons hk, he]
  unfold curFind
  rw [List.find?_cons_of_pos (by simpa using hc)]
theorem cfind_end {l : List CurV} {k : Nat} {code : ByteArray} {F : Option CurV} (hk : l.length ≤ k) (h : F = curFind (l.drop k) code) : F = none := by
  rw [h, List.drop_of_length_le hk]; rfl

/-! The text of an amount. -/
/-- The last digits. -/
def lowD (n : Nat) : Nat → List UInt8
  | 0 => []
  | d + 1 => lowD (n / 10) d ++ [UInt8.ofNat (48 + n % 10)]
theorem lowD_len (n : Nat) : ∀ d, (lowD n d).length = d := by
  intro d
  induction d generalizing n with
  | zero => rfl
  | succ d ih => rw [lowD, List.length_append, ih]; rfl
theorem lowD_all (n : Nat) : ∀ d, (lowD n d).all isD = true := by
  intro d
  induction d generalizing n with
  | zero => rfl
  | succ d ih => rw [lowD, List.all_append, ih, List.all_cons, isD_dig (Nat.mod_lt _ (by omega))]; rfl
theorem lowD_mod (n : Nat) : ∀ d, lowD (n % 10 ^ d) d = lowD n d := by
  intro d
  induction d generalizing n with
  | zero => rfl
  | succ d ih =>
    rw [lowD, lowD]
    have h1 : n % 10 ^ (d + 1) / 10 = n / 10 % 10 ^ d := by rw [Nat.pow_succ, Nat.mul_comm, Nat.mod_mul_right_div_self]
    have h2 : n % 10 ^ (d + 1) % 10 = n % 10 := Nat.mod_mod_of_dvd n ⟨10 ^ d, by rw [Nat.pow_succ, Nat.mul_comm]⟩
    rw [h1, ih, h2]
theorem lowD_val (n : Nat) : ∀ d acc, natV acc (lowD n d) = acc * 10 ^ d + n % 10 ^ d := by
  intro d
  induction d generalizing n with
  | zero => intro acc; rw [lowD, natV_nil, Nat.pow_zero, Nat.mod_one]; omega
  | succ d ih =>
    intro acc
    rw [lowD, natV_app, ih, natV_cons, natV_nil, dig_val (Nat.mod_lt _ (by omega)), Nat.pow_succ]
    have h1 : n % (10 ^ d * 10) = 10 * (n / 10 % 10 ^ d) + n % 10 := by rw [Nat.mul_comm, Nat.mod_mul]; omega
    rw [h1, Nat.add_mul, Nat.mul_assoc]; omega
/-- Digits, at least d + 1. -/
def padZ (n d : Nat) : List UInt8 := List.replicate (d + 1 - (Lib.decDigits n).length) 48 ++ Lib.decDigits n
theorem padZ_eq (n : Nat) : ∀ d, padZ n d = Lib.decDigits (n / 10 ^ d) ++ lowD n d := by
  intro d
  induction d generalizing n with
  | zero =>
    have h : (Lib.decDigits n).length ≠ 0 := fun e => dec_ne n (List.eq_nil_of_length_eq_zero e)
    rw [padZ, lowD, Nat.pow_zero, Nat.div_one, show 0 + 1 - (Lib.decDigits n).length = 0 by omega]
    simp
  | succ d ih =>
    have hs : padZ n (d + 1) = padZ (n / 10) d ++ [UInt8.ofNat (48 + n % 10)] := by
      unfold padZ
      by_cases h : n < 10
      · rw [dec_small h, show n / 10 = 0 by omega, dec_small (by omega), show n % 10 = n by omega]
        show List.replicate (d + 1 + 1 - 1) 48 ++ _ = List.replicate (d + 1 - 1) 48 ++ [48] ++ _
        rw [show d + 1 + 1 - 1 = d + 1 by omega, show d + 1 - 1 = d by omega, List.replicate_succ']
      · rw [dec_big h, List.length_append, List.length_singleton, ← List.append_assoc, show d + 1 + 1 - ((Lib.decDigits (n / 10)).length + 1) = d + 1 - (Lib.decDigits (n / 10)).length by omega]
    rw [hs, ih, lowD, List.append_assoc, Nat.div_div_eq_div_mul, Nat.pow_succ, Nat.mul_comm 10]
theorem dec_one : ∀ (d r : Nat), r < 10 ^ d → Lib.decDigits (10 ^ d + r) = 49 :: lowD r d
  | 0, r, h => by rw [Nat.pow_zero] at h ⊢; rw [show r = 0 by omega, dec_small (by omega)]; rfl
  | d + 1, r, h => by
    rw [Nat.pow_succ] at h
    have hp : 0 < 10 ^ d := Nat.pow_pos (by omega)
    rw [Nat.pow_succ, dec_big (by omega), show (10 ^ d * 10 + r) / 10 = 10 ^ d + r / 10 by omega, dec_one d (r / 10) (by omega), show (10 ^ d * 10 + r) % 10 = r % 10 by omega, lowD]
    rfl
def signL (a : Int) : List UInt8 := if a < 0 then [45] else []
def formatT (a : Int) (d : Nat) : List UInt8 := if d = 0 then signL a ++ Lib.decDigits a.natAbs else signL a ++ Lib.decDigits (a.natAbs / 10 ^ d) ++ 46 :: lowD a.natAbs d
def formatS (a d : Int) : ByteArray := if valid3 a && placesB d then ⟨(formatT a d.toNat).toArray⟩ else ⟨#[]⟩
def formatE (a d : Int) : Int := if valid3 a && placesB d then 0 else 1

/-! The amount of a text. -/
def splitF (T : List UInt8) (d : Nat) : Option (List UInt8) :=
  if d = 0 then (if natL T = true then some T else none)
  else if T.length < d + 2 then none
  else if T[T.length - d - 1]? = some 46 ∧ natL (T.take (T.length - d - 1)) = true ∧ (T.drop (T.length - d)).all isD = true then some (T.take (T.length - d - 1) ++ T.drop (T.length - d)) else none
def parseV' (m : Bool) (D : Option (List UInt8)) : Int := match D with
  | none => 0
  | some D => if natV 0 D = 0 then 0 else if 1000000000000 < natV 0 D then 0 else if m = true then -(natV 0 D : Int) else natV 0 D
def parseE' (m : Bool) (D : Option (List UInt8)) : Int := match D with
  | none => 2
  | some D => if natV 0 D = 0 then (if m = true then 2 else 0) else if 1000000000000 < natV 0 D then 6 else 0
def parseV (l : List UInt8) (d : Int) : Int := if placesB d then parseV' (negL l) (splitF (digL l) d.toNat) else 0
def parseE (l : List UInt8) (d : Int) : Int := if placesB d then parseE' (negL l) (splitF (digL l) d.toNat) else 1

/-! Written, then read. -/
theorem head_dec (n : Nat) : ∃ c r, Lib.decDigits n = c :: r ∧ isD c = true := by
  have h1 := dec_ne n
  have h2 := dec_all n n (Nat.le_refl _)
  match h : Lib.decDigits n with
  | [] => exact absurd h h1
  | c :: r => rw [h, List.all_cons, Bool.and_eq_true] at h2; exact ⟨c, r, rfl, h2.1⟩
theorem neg_dig {c : UInt8} {r : List UInt8} (h : isD c = true) : negL (c :: r) = false := by
  unfold negL
  rw [decide_eq_false_iff_not]
  intro e
  rw [List.head?_cons, Option.some.injEq] at e
  subst e
  exact absurd h (by decide)
theorem split_body (n d : Nat) : ∃ D, splitF (if d = 0 then Lib.decDigits n else Lib.decDigits (n / 10 ^ d) ++ 46 :: lowD n d) d = some D ∧ natV 0 D = n := by
  by_cases h0 : d = 0
  · rw [if_pos h0]
    exact ⟨_, by rw [splitF, if_pos h0, if_pos (natL_dec n)], dec_val n n (Nat.le_refl _)⟩
  · rw [if_neg h0]
    have hW : 1 ≤ (Lib.decDigits (n / 10 ^ d)).length := by
      obtain ⟨c, r, e, _⟩ := head_dec (n / 10 ^ d)
      rw [e]; simp
    have hl : (Lib.decDigits (n / 10 ^ d) ++ 46 :: lowD n d).length = (Lib.decDigits (n / 10 ^ d)).length + (d + 1) := by rw [List.length_append, List.length_cons, lowD_len]
    refine ⟨Lib.decDigits (n / 10 ^ d) ++ lowD n d, ?_, ?_⟩
    · rw [splitF, if_neg h0, if_neg (by omega), hl, show (Lib.decDigits (n / 10 ^ d)).length + (d + 1) - d - 1 = (Lib.decDigits (n / 10 ^ d)).length by omega, show (Lib.decDigits (n / 10 ^ d)).length + (d + 1) - d = (Lib.decDigits (n / 10 ^ d)).length + 1 by omega]
      have e1 : (Lib.decDigits (n / 10 ^ d) ++ 46 :: lowD n d)[(Lib.decDigits (n / 10 ^ d)).length]? = some 46 := by rw [List.getElem?_append_right (Nat.le_refl _), Nat.sub_self]; rfl
      have e2 : (Lib.decDigits (n / 10 ^ d) ++ 46 :: lowD n d).take (Lib.decDigits (n / 10 ^ d)).length = Lib.decDigits (n / 10 ^ d) := List.take_left
      have e3 : (Lib.decDigits (n / 10 ^ d) ++ 46 :: lowD n d).drop ((Lib.decDigits (n / 10 ^ d)).length + 1) = lowD n d := by
        rw [show Lib.decDigits (n / 10 ^ d) ++ 46 :: lowD n d = (Lib.decDigits (n / 10 ^ d) ++ [46]) ++ lowD n d by simp]
        exact List.drop_left' (by simp)
      rw [e1, e2, e3, if_pos ⟨rfl, natL_dec _, lowD_all n d⟩]
    · rw [natV_app, dec_val _ _ (Nat.le_refl _), lowD_val]
      have := Nat.div_add_mod n (10 ^ d)
      rw [Nat.mul_comm] at this
      exact this
theorem format_body (a : Int) (d : Nat) : formatT a d = signL a ++ (if d = 0 then Lib.decDigits a.natAbs else Lib.decDigits (a.natAbs / 10 ^ d) ++ 46 :: lowD a.natAbs d) := by
  unfold formatT; split <;> simp
theorem format_sign (a : Int) (d : Nat) : negL (formatT a d) = decide (a < 0) ∧ digL (formatT a d) = if d = 0 then Lib.decDigits a.natAbs else Lib.decDigits (a.natAbs / 10 ^ d) ++ 46 :: lowD a.natAbs d := by
  rw [format_body]
  generalize hX : (if d = 0 then Lib.decDigits a.natAbs else Lib.decDigits (a.natAbs / 10 ^ d) ++ 46 :: lowD a.natAbs d) = X
  have hn : negL X = false := by
    rw [← hX]
    split
    · obtain ⟨c, r, e, h⟩ := head_dec a.natAbs
      rw [e]; exact neg_dig h
    · obtain ⟨c, r, e, h⟩ := head_dec (a.natAbs / 10 ^ d)
      rw [e]; exact neg_dig h
  unfold signL
  by_cases h : a < 0
  · rw [if_pos h, decide_eq_true h]
    refine ⟨rfl, ?_⟩
    unfold digL
    rw [if_pos (show negL ([45] ++ X) = true from rfl)]
    rfl
  · rw [if_neg h, decide_eq_false h, List.nil_append]
    refine ⟨hn, ?_⟩
    unfold digL
    rw [if_neg (by rw [hn]; simp)]
theorem parse_format {a d : Int} (h1 : valid3 a = true) (h2 : placesB d = true) : parseV (formatT a d.toNat) d = a ∧ parseE (formatT a d.toNat) d = 0 := by
  obtain ⟨g1, g2⟩ := format_sign a d.toNat
  obtain ⟨D, e1, e2⟩ := split_body a.natAbs d.toNat
  rw [valid3_iff] at h1
  unfold parseV parseE
  rw [if_pos h2, if_pos h2, g1, g2, e1]
  unfold parseV' parseE'
  simp only [e2]
  by_cases h0 : a.natAbs = 0
  · have : a = 0 := by omega
    subst this
    simp
  · have hb : ¬ 1000000000000 < a.natAbs := by omega
    simp only [if_neg h0, if_neg hb]
    refine ⟨?_, trivial⟩
    by_cases h : a < 0
    · rw [decide_eq_true h, if_pos rfl]; omega
    · rw [decide_eq_false h, if_neg (by simp)]; omega

/-! Read, then written. -/
theorem low_back : ∀ (k : Nat) (R : List UInt8), R.length = k → R.all isD = true → ∀ acc, lowD (natV acc R) k = R ∧ natV acc R / 10 ^ k = acc
  | 0, R, hl, _, acc => by
    have : R = [] := List.eq_nil_of_length_eq_zero hl
    subst this
    rw [natV_nil]
    exact ⟨rfl, by rw [Nat.pow_zero, Nat.div_one]⟩
  | k + 1, R, hl, hd, acc => by
    rcases List.eq_nil_or_concat R with rfl | ⟨I, c, rfl⟩
    · simp at hl
    · rw [List.concat_eq_append] at hl hd ⊢
      rw [List.length_append, List.length_singleton] at hl
      rw [List.all_append, Bool.and_eq_true, List.all_cons, Bool.and_eq_true] at hd
      obtain ⟨h1, h2⟩ := low_back k I (by omega) hd.1 acc
      obtain ⟨x, x1, x2, x3, x4⟩ := isD_inv hd.2.1
      rw [natV_app, natV_cons, natV_nil, x2, lowD, show (natV acc I * 10 + x) / 10 = natV acc I by omega, h1, show (natV acc I * 10 + x) % 10 = x by omega, ← x3]
      refine ⟨rfl, ?_⟩
      rw [show 10 ^ (k + 1) = 10 * 10 ^ k by rw [Nat.pow_succ, Nat.mul_comm], ← Nat.div_div_eq_div_mul, show (natV acc I * 10 + x) / 10 = natV acc I by omega, h2]
theorem neg_split {l : List UInt8} : l = (if negL l = true then [45] else []) ++ digL l := by
  unfold digL negL
  cases l with
  | nil => rfl
  | cons c r =>
    rw [List.head?_cons]
    by_cases h : c = 45
    · subst h; simp
    · rw [if_neg (by simpa using h), if_neg (by simpa using h)]; rfl
theorem split_inv {T D : List UInt8} {d : Nat} (h : splitF T d = some D) : (if d = 0 then Lib.decDigits (natV 0 D) else Lib.decDigits (natV 0 D / 10 ^ d) ++ 46 :: lowD (natV 0 D) d) = T := by
  unfold splitF at h
  by_cases h0 : d = 0
  · rw [if_pos h0] at h ⊢
    split at h
    · rename_i hn
      rw [Option.some.injEq] at h
      subst h
      exact dec_nat T.length T (Nat.le_refl _) hn
    · cases h
  · rw [if_neg h0] at h ⊢
    split at h
    · cases h
    · rename_i hlen
      split at h
      · rename_i hc
        obtain ⟨h1, h2, h3⟩ := hc
        rw [Option.some.injEq] at h
        subst h
        obtain ⟨b1, b2⟩ := low_back d (T.drop (T.length - d)) (by rw [List.length_drop]; omega) h3 (natV 0 (T.take (T.length - d - 1)))
        rw [natV_app, b1, b2, dec_nat _ _ (Nat.le_refl _) h2]
        obtain ⟨hk, he⟩ := List.getElem?_eq_some_iff.1 h1
        have := List.take_append_drop (T.length - d - 1) T
        rw [List.drop_eq_getElem_cons hk, he, show T.length - d - 1 + 1 = T.length - d by omega] at this
        exact this
      · cases h
theorem format_parse {l : List UInt8} {d : Int} (h : parseE l d = 0) : placesB d = true ∧ valid3 (parseV l d) = true ∧ formatT (parseV l d) d.toNat = l := by
  unfold parseE at h
  split at h
  · rename_i hp
    refine ⟨hp, ?_⟩
    unfold parseV
    rw [if_pos hp]
    unfold parseE' at h
    split at h
    · cases h
    · rename_i D hD
      have hT := split_inv hD
      rw [hD]
      unfold parseV'
      dsimp only
      split at h
      · rename_i h0
        split at h
        · cases h
        · rename_i hm
          rw [if_pos h0]
          refine ⟨by decide, ?_⟩
          rw [format_body]
          rw [h0] at hT
          show [] ++ _ = _
          rw [List.nil_append]
          have hs := neg_split (l := l)
          rw [if_neg hm, List.nil_append] at hs
          rw [hs]
          exact hT
      · rename_i h0
        split at h
        · cases h
        · rename_i hbig
          rw [if_neg h0, if_neg hbig]
          have hs := neg_split (l := l)
          by_cases hm : negL l = true
          · rw [if_pos hm] at hs ⊢
            refine ⟨by rw [valid3_iff]; omega, ?_⟩
            rw [format_body, show (-(natV 0 D : Int)).natAbs = natV 0 D by omega, hT, signL, if_pos (by omega)]
            exact hs.symm
          · rw [if_neg hm] at hs ⊢
            refine ⟨by rw [valid3_iff]; omega, ?_⟩
            rw [format_body, show ((natV 0 D : Nat) : Int).natAbs = natV 0 D by omega, hT, signL, if_neg (by omega)]
            exact hs.symm
  · cases h
theorem parse_zero {l : List UInt8} {d : Int} (h : parseE l d ≠ 0) : parseV l d = 0 := by
  unfold parseE at h
  unfold parseV
  split
  · rename_i hp
    rw [if_pos hp] at h
    unfold parseE' at h
    unfold parseV'
    split
    · rfl
    · rename_i D hD
      rw [hD] at h
      dsimp only at h
      split
      · rfl
      · rename_i h0
        rw [if_neg h0] at h
        split
        · rfl
        · rename_i hb
          rw [if_neg hb] at h
          exact absurd rfl h
  · rfl
end Go.Proofs.YtaphbajfjmhpnaaDoor
