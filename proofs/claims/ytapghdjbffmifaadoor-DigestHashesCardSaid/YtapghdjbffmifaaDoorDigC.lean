/-
  Check digits: the walks of digest.Seal, Sealed and of the reference's, and the law's letter. Conditions: strings fit in memory.
-/
import Derived.Test.YtapghdjbffmifaaDoorDigB
import Derived.Test.YtapghdjbffmifaaDoorShelf
namespace Go.Proofs.YtapghdjbffmifaaDoor
open Go.RowKit
set_option maxRecDepth 100000

/-- A decimal digit's byte. -/
def dchr (d : Nat) : UInt8 := UInt8.ofNat (48 + d)
def two (d : Int) : List UInt8 := [dchr (d.toNat / 10), dchr (d.toNat % 10)]
def sealL (l : List UInt8) : List UInt8 := l ++ two (98 - m97 (l ++ [48, 48]))
def sealT (l : List UInt8) : List UInt8 × Int := if l.length < 1 ∨ 46 < l.length then ([], 5) else if okl l = true then (sealL l, 0) else ([], 2)
theorem tup_si {k : IntKind} {s t : ByteArray} {c d : Int} (h : s = t) (h' : c = d) : Ending.returned (.tuple #[.string s, .int k c]) = .returned (.tuple #[.string t, .int k d]) := by rw [h, h']
theorem cat_1 (s : ByteArray) (x y : UInt8) : s ++ ((⟨#[x]⟩ : ByteArray) ++ ⟨#[y]⟩) = ⟨(s.data.toList ++ [x, y]).toArray⟩ := by apply ByteArray.ext; simp
theorem cat_2 (s : ByteArray) (x y : UInt8) : s ++ (⟨#[x, y]⟩ : ByteArray) = ⟨(s.data.toList ++ [x, y]).toArray⟩ := by apply ByteArray.ext; simp
theorem cat_3 (s : ByteArray) (x y : UInt8) : s ++ (⟨#[x]⟩ : ByteArray) ++ ⟨#[y]⟩ = ⟨(s.data.toList ++ [x, y]).toArray⟩ := by apply ByteArray.ext; apply Array.toList_inj.1; simp
theorem okl_00 (l : List UInt8) : okl (l ++ [48, 48]) = okl l := by
  unfold okl; rw [List.all_append, show ([48, 48] : List UInt8).all okc = true from by decide, Bool.and_true]
theorem dec_1 (i : Nat) (h : i < 10) : Lib.decDigits i = [dchr i] := by unfold Lib.decDigits; rw [dif_pos h]; rfl
theorem dec_2 (i : Nat) (h : 10 ≤ i) (h' : i < 100) : Lib.decDigits i = [dchr (i / 10), dchr (i % 10)] := by
  rw [Lib.decDigits, dif_neg (by omega), dec_1 _ (by omega)]; rfl

/-- digest.Seal -/
theorem Seal_any (s : ByteArray) (w : World) :
    Calls Tryd.prog 37 #[.string s] w fun e w' => e = .returned (.tuple #[.string ⟨(sealT s.data.toList).1.toArray⟩, .int .i64 (sealT s.data.toList).2]) ∧ w = w' := by
  have hsz := size_list s
  by_cases h1 : s.size < 1 ∨ 46 < s.size
  · have hm : sealT s.data.toList = ([], 5) := by unfold sealT; rw [if_pos (by rw [hsz]; exact h1)]
    have HM := Lib.hid hm; clear hm hsz
    rcases h1 with h1 | h1
    · go_enter Tryd.func37, Tryd.ntmps37
      go_wp2_with fail
      go_ret2
      exact ⟨by rw [HM.out]; rfl, rfl⟩
    · have h2 : ¬ s.size < 1 := by omega
      go_enter Tryd.func37, Tryd.ntmps37
      go_wp2_with fail
      go_ret2
      exact ⟨by rw [HM.out]; rfl, rfl⟩
  · have h2 : ¬ s.size < 1 := by omega
    have h3 : ¬ 46 < s.size := by omega
    have hm : sealT s.data.toList = if okl s.data.toList = true then (sealL s.data.toList, 0) else ([], 2) := by unfold sealT; rw [if_neg (by rw [hsz]; exact h1)]
    have HM := Lib.hid hm; clear hm hsz h1
    have e0 : (s ++ ⟨#[48, 48]⟩ : ByteArray).data.toList = s.data.toList ++ [48, 48] := by simp
    have hc := remainder_any (s ++ ⟨#[48, 48]⟩) w (by have := ByteArray.size_append (a := s) (b := ⟨#[48, 48]⟩); rw [this]; show s.size + 2 ≤ _; unfold maxLen; omega)
    rw [e0, okl_00] at hc
    rcases hb : okl s.data.toList with _ | _
    · rw [hb] at HM hc
      have H := Lib.hid hc; clear hc hb e0
      go_enter Tryd.func37, Tryd.ntmps37
      go_wp2_with fail
      refine (H.out).mono ?_; rintro e w' ⟨rfl, rfl⟩
      go_wp2_with fail
      go_ret2
      exact ⟨by rw [HM.out]; rfl, rfl⟩
    · have hr : rem97 (s.data.toList ++ [48, 48]) = m97 (s.data.toList ++ [48, 48]) := by unfold rem97; rw [okl_00, if_pos hb]
      rw [hb] at HM hc
      rw [hr] at hc
      have hmod := m97_mod (s.data.toList ++ [48, 48])
      have HS : Hid (sealL s.data.toList = s.data.toList ++ two (98 - m97 (s.data.toList ++ [48, 48]))) := Lib.hid rfl
      generalize m97 (s.data.toList ++ [48, 48]) = n at hc hmod HS
      obtain ⟨n0, n1⟩ := hmod
      have H := Lib.hid hc; clear hc hb e0 hr
      go_enter Tryd.func37, Tryd.ntmps37
      go_wp2_with fail
      refine (H.out).mono ?_; rintro e w' ⟨rfl, rfl⟩
      go_wp2_with fail
      rw [show (98 - n : Int) = ((98 - n).toNat : Int) from by omega]
      refine (Tryd.strconv_Itoa_small (98 - n).toNat (by omega) _).mono ?_
      rintro e w' ⟨rfl, hw⟩
      obtain rfl : w = w' := hw.symm
      by_cases hi : (98 - n).toNat < 10
      · rw [dec_1 _ hi]
        go_wp2
        go_ret2
        exact ⟨tup_si (by rw [HM.out]; show _ = (⟨(sealL s.data.toList).toArray⟩ : ByteArray); rw [HS.out]; refine (cat_1 _ _ _).trans ?_; unfold two; rw [Nat.div_eq_of_lt hi, Nat.mod_eq_of_lt hi]; rfl) (by rw [HM.out]; rfl), rfl⟩
      · rw [dec_2 _ (by omega) (by omega)]
        go_wp2
        go_ret2
        exact ⟨tup_si (by rw [HM.out]; show _ = (⟨(sealL s.data.toList).toArray⟩ : ByteArray); rw [HS.out]; exact cat_2 _ _ _) (by rw [HM.out]; rfl), rfl⟩

def digits10 : ByteArray := ⟨#[48, 49, 50, 51, 52, 53, 54, 55, 56, 57]⟩
theorem cut10 : ∀ d : Fin 10, (⟨#[48, 49, 50, 51, 52, 53, 54, 55, 56, 57]⟩ : ByteArray).extract d.val (d.val + 1) = ⟨#[dchr d.val]⟩ := by decide +kernel
theorem cut10' (d : Nat) (h : d < 10) : (⟨#[48, 49, 50, 51, 52, 53, 54, 55, 56, 57]⟩ : ByteArray).extract d (d + 1) = ⟨#[dchr d]⟩ := cut10 ⟨d, h⟩
/-- R08.Seal -/
theorem RSeal_any (s : ByteArray) (w : World) (hs : s.size ≤ maxLen) :
    Calls Tryd.prog 38 #[.string s] w fun e w' => e = .returned (.tuple #[.string ⟨(sealT s.data.toList).1.toArray⟩, .int .i64 (sealT s.data.toList).2]) ∧ Below w.heap.size w w' := by
  have hsz := size_list s
  by_cases h1 : s.size < 1 ∨ 46 < s.size
  · have hm : sealT s.data.toList = ([], 5) := by unfold sealT; rw [if_pos (by rw [hsz]; exact h1)]
    have HM := Lib.hid hm; clear hm hsz hs
    rcases h1 with h1 | h1
    · go_enter Tryd.func38, Tryd.ntmps38
      go_wp2_with fail
      go_ret2
      exact ⟨by rw [HM.out]; rfl, Below.refl _ _⟩
    · have h2 : ¬ s.size < 1 := by omega
      go_enter Tryd.func38, Tryd.ntmps38
      go_wp2_with fail
      go_ret2
      exact ⟨by rw [HM.out]; rfl, Below.refl _ _⟩
  · have h2 : ¬ s.size < 1 := by omega
    have h3 : ¬ 46 < s.size := by omega
    have hm : sealT s.data.toList = if okl s.data.toList = true then (sealL s.data.toList, 0) else ([], 2) := by unfold sealT; rw [if_neg (by rw [hsz]; exact h1)]
    have HM := Lib.hid hm; clear hm hsz h1
    have hp := Plain_any s w hs
    rcases hb : okl s.data.toList with _ | _
    · rw [hb] at HM hp
      have H := Lib.hid hp; clear hp hb
      go_enter Tryd.func38, Tryd.ntmps38
      go_wp2_with fail
      refine (H.out).mono ?_; rintro e w' ⟨rfl, rfl⟩
      go_wp2_with fail
      go_ret2
      exact ⟨by rw [HM.out]; rfl, Below.refl _ _⟩
    · have e0 : (s ++ ⟨#[48, 48]⟩ : ByteArray).data.toList = s.data.toList ++ [48, 48] := by simp
      have hc := rest_any (s ++ ⟨#[48, 48]⟩) w (by have := ByteArray.size_append (a := s) (b := ⟨#[48, 48]⟩); rw [this]; show s.size + 2 ≤ _; unfold maxLen; omega) (Lib.hid (by rw [e0, okl_00]; exact hb))
      rw [e0] at hc
      rw [hb] at HM hp
      have hmod := m97_mod (s.data.toList ++ [48, 48])
      have HS : Hid (sealL s.data.toList = s.data.toList ++ two (98 - m97 (s.data.toList ++ [48, 48]))) := Lib.hid rfl
      generalize m97 (s.data.toList ++ [48, 48]) = n at hc hmod HS
      obtain ⟨n0, n1⟩ := hmod
      have c1 := cut10' ((98 - n).toNat / 10) (by omega)
      have c2 := cut10' ((98 - n).toNat % 10) (by omega)
      have H := Lib.hid hp; clear hp hb
      have H2 := Lib.hid hc; clear hc e0
      obtain ⟨d, hd⟩ : ∃ d : Nat, (98 - n : Int) = d := ⟨(98 - n).toNat, by omega⟩
      obtain rfl : n = 98 - (d : Int) := by omega
      rw [show (98 - (98 - (d : Int))).toNat = d from by omega] at c1 c2
      rw [show (98 - (98 - (d : Int))) = (d : Int) from by omega] at HS
      clear hd
      go_enter Tryd.func38, Tryd.ntmps38
      go_wp2_with fail
      refine (H.out).mono ?_; rintro e w' ⟨rfl, rfl⟩
      go_wp2_with fail
      refine (H2.out).mono ?_; rintro e w' ⟨rfl, rfl⟩
      go_wp2_with fail
      rw [show (98 - (98 - (d : Int)) : Int) = d from by omega]
      have d1 : d < 100 := by omega
      go_quiet (fail)
      go_wp2
      go_ret2
      exact ⟨tup_si (by rw [HM.out]; show _ = (⟨(sealL s.data.toList).toArray⟩ : ByteArray); rw [HS.out]; exact cat_3 _ _ _) (by rw [HM.out]; rfl), below_drewN (Below.refl _ _) _⟩

def isSealed (l : List UInt8) : Bool := decide (3 ≤ l.length) && (mod97 l).2 == 0 && (mod97 l).1 == 1

/-- digest.Sealed -/
theorem Sealed_any (s : ByteArray) (w : World) (hs : s.size ≤ maxLen) :
    Calls Tryd.prog 39 #[.string s] w fun e w' => e = .returned (.bool (isSealed s.data.toList)) ∧ w = w' := by
  have hsz := size_list s
  have hc := Mod97_any s w hs
  have hd : isSealed s.data.toList = (decide (3 ≤ s.size) && (mod97 s.data.toList).2 == 0 && (mod97 s.data.toList).1 == 1) := by unfold isSealed; rw [hsz]
  rw [hd]
  generalize mod97 s.data.toList = r at hc
  obtain ⟨n, e⟩ := r
  have H := Lib.hid hc; clear hc hd hsz
  go_enter Tryd.func39, Tryd.ntmps39
  go_wp2_with fail
  refine (H.out).mono ?_; rintro e w' ⟨rfl, rfl⟩
  go_wp2
  all_goals (go_ret; refine ⟨ret_bool (bool_ext ?_), rfl⟩; simp <;> omega)
/-- R08.Sealed -/
theorem RSealed_any (s : ByteArray) (w : World) (hs : s.size ≤ maxLen) :
    Calls Tryd.prog 40 #[.string s] w fun e w' => e = .returned (.bool (isSealed s.data.toList)) ∧ w = w' := by
  have hsz := size_list s
  have hc := RMod97_any s w hs
  have hd : isSealed s.data.toList = (decide (3 ≤ s.size) && (mod97 s.data.toList).2 == 0 && (mod97 s.data.toList).1 == 1) := by unfold isSealed; rw [hsz]
  rw [hd]
  generalize mod97 s.data.toList = r at hc
  obtain ⟨n, e⟩ := r
  have H := Lib.hid hc; clear hc hd hsz
  go_enter Tryd.func40, Tryd.ntmps40
  go_wp2_with fail
  refine (H.out).mono ?_; rintro e w' ⟨rfl, rfl⟩
  go_wp2
  all_goals (go_ret; refine ⟨ret_bool (bool_ext ?_), rfl⟩; simp <;> omega)
/-- law08.letter -/
theorem letter_any (c : UInt8) (w : World) :
    Calls Tryd.prog 42 #[.int .u8 c.toNat] w fun e w' => e = .returned (.bool (decide (65 ≤ c.toNat) && decide (c.toNat ≤ 90))) ∧ w = w' := by
  go_enter Tryd.func42, Tryd.ntmps42
  go_wp2
  all_goals (go_ret; refine ⟨ret_bool (bool_ext ?_), rfl⟩; simp <;> omega)
end Go.Proofs.YtapghdjbffmifaaDoor
