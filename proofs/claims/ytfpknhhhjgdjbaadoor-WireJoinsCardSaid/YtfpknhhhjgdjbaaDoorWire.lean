/-
  The packing of texts: the plain function, and the walks of wire.Int, wire.Pack and of the reference's natural, Int, Pack. Conditions: the texts fit in memory; the library's table of powers of ten reads as its text lays it.
-/
import Derived.Test.YtfpknhhhjgdjbaaDoorRows
import Derived.Test.YtfpknhhhjgdjbaaDoorLib2
import Derived.Test.YtfpknhhhjgdjbaaDoorLib3
import Derived.Test.YtfpknhhhjgdjbaaDoorCtx
import Derived.Lib.Zigzag
import Derived.Lib.ItoaLen
namespace Go.Proofs.YtfpknhhhjgdjbaaDoor
open Go.RowKit
set_option maxRecDepth 100000

def slen : Value → Nat
  | .string t => t.size
  | _ => 0
def dgt (d : Nat) : UInt8 := UInt8.ofNat (48 + d)
theorem cut10 : ∀ d : Fin 10, (⟨#[48, 49, 50, 51, 52, 53, 54, 55, 56, 57]⟩ : ByteArray).extract d.val (d.val + 1) = ⟨#[dgt d.val]⟩ := by decide +kernel
theorem cut10' (d : Nat) (h : d < 10) : (⟨#[48, 49, 50, 51, 52, 53, 54, 55, 56, 57]⟩ : ByteArray).extract d (d + 1) = ⟨#[dgt d]⟩ := cut10 ⟨d, h⟩
/-- What a numeral is whose last digits stand already. -/
def dd (m : Nat) (t : List UInt8) : List UInt8 := if m = 0 ∧ t ≠ [] then t else Lib.decDigits m ++ t
theorem dd_step (m : Nat) (t : List UInt8) (h : t = [] ∨ m ≠ 0) : dd (m / 10) (UInt8.ofNat (48 + m % 10) :: t) = dd m t := by
  have e : dd m t = Lib.decDigits m ++ t := by
    unfold dd
    rw [if_neg]
    rintro ⟨a, b⟩
    rcases h with h | h
    · exact b h
    · exact h a
  rw [e, Lib.decDigits]
  by_cases h10 : m < 10
  · rw [dif_pos h10, show m / 10 = 0 by omega, Nat.mod_eq_of_lt h10]; unfold dd; rw [if_pos ⟨rfl, by simp⟩]; rfl
  · rw [dif_neg h10]; unfold dd; rw [if_neg (by rintro ⟨a, _⟩; omega)]; simp
theorem dd_end (t : List UInt8) (h : t ≠ []) : dd 0 t = t := by unfold dd; rw [if_pos ⟨rfl, h⟩]
theorem pow10_step {m j : Nat} (h : m < 10 ^ (j + 1)) : m / 10 < 10 ^ j := by
  rw [Nat.pow_succ] at h
  exact Nat.div_lt_of_lt_mul (by omega)
/-- One round of the numeral. -/
theorem natural_step {m : Int} {k d : Nat} {t : ByteArray} {L : List UInt8} (m0 : 0 ≤ m) (hd : m % 10 = d) (ht : t.size = k) (hk : k ≤ 20) (hp : m.toNat < 10 ^ (20 - k)) (hL : dd m.toNat t.data.toList = L) (h : k = 0 ∨ 0 < m) :
    k < 20 ∧ (m / 10).toNat < 10 ^ (20 - (k + 1)) ∧ dd (m / 10).toNat ((⟨#[dgt d]⟩ : ByteArray) ++ t).data.toList = L := by
  have hk20 : k < 20 := by
    rcases Nat.lt_or_ge k 20 with h1 | h1
    · exact h1
    · obtain rfl : k = 20 := by omega
      simp at hp
      omega
  have e1 : (m / 10).toNat = m.toNat / 10 := by omega
  have e2 : m.toNat % 10 = d := by omega
  refine ⟨hk20, ?_, ?_⟩
  · rw [e1]; exact pow10_step (by rw [show 20 - (k + 1) + 1 = 20 - k by omega]; exact hp)
  · rw [e1, b_app, ← hL, ← e2]
    exact dd_step m.toNat t.data.toList (by
      rcases h with h | h
      · left; exact List.eq_nil_of_length_eq_zero (by rw [size_list]; omega)
      · right; omega)

/-- R07.natural -/
theorem natural_any (u : Nat) (hu : u ≤ 18446744073709551615) (w : World) :
    Calls Tryd.prog 54 #[.int .u64 (u : Int)] w fun e w' => e = .returned (.string ⟨(Lib.decDigits u).toArray⟩) ∧ w = w' := by
  go_enter Tryd.func54, Tryd.ntmps54
  go_wp2
  go_loop [0, 3] (fun n s => ∃ (m : Int) (k : Nat) (t : ByteArray), n = .int .u64 m ∧ s = .string t ∧ 0 ≤ m ∧ m ≤ 18446744073709551615 ∧ t.size = k ∧ k ≤ 20 ∧ Hid (m.toNat < 10 ^ (20 - k) ∧ dd m.toNat t.data.toList = Lib.decDigits u)) (fun _ s => 20 - slen s)
  case atStart => exact ⟨u, 0, ⟨#[]⟩, rfl, rfl, by omega, by omega, rfl, by omega, Lib.hid ⟨by simp; omega, by simp [dd]⟩⟩
  case round =>
    obtain ⟨m, k, t, rfl, rfl, m0, m1, ht, hk, hh⟩ := hrel
    obtain ⟨d, hd⟩ : ∃ d : Nat, m % 10 = (d : Int) := ⟨(m % 10).toNat, by omega⟩
    have hd10 : d < 10 := by omega
    have c1 := cut10' d hd10
    have HS : Hid ((k = 0 ∨ 0 < m) → k < 20 ∧ (m / 10).toNat < 10 ^ (20 - (k + 1)) ∧ dd (m / 10).toNat ((⟨#[dgt d]⟩ : ByteArray) ++ t).data.toList = Lib.decDigits u) := Lib.hid (natural_step m0 hd ht hk hh.out.1 hh.out.2)
    have hsz : ((⟨#[dgt d]⟩ : ByteArray) ++ t).size = k + 1 := by rw [bsize_app, ht]; show 1 + k = _; omega
    have HZ := Lib.hid hsz
    clear hsz
    by_cases h0 : k = 0
    · subst h0
      have HE := empty_of_size0 ht
      subst HE
      go_wp2
      go_round
      case rel => exact ⟨m / 10, 1, _, rfl, rfl, by omega, by omega, HZ.out, by omega, Lib.hid (HS.out (.inl rfl)).2⟩
      case measure => exact Nat.lt_of_lt_of_eq (Nat.sub_lt_sub_left (by decide) (Nat.lt_of_lt_of_eq (by decide) HZ.out.symm)) rfl
    · have hne : t.toList.isEmpty = false := by
        rw [ByteArray.toList_eq]
        rcases hq : t.data.toList with _ | ⟨c, l⟩
        · have := size_list t; rw [hq] at this; simp at this; omega
        · rfl
      by_cases hm : 0 < m
      · have hk20 := (HS.out (.inr hm)).1
        go_wp2
        go_round
        case rel => exact ⟨m / 10, k + 1, _, rfl, rfl, by omega, by omega, HZ.out, by omega, Lib.hid (HS.out (.inr hm)).2⟩
        case measure => exact Nat.sub_lt_sub_left (show t.size < 20 by omega) (Nat.lt_of_lt_of_eq (show t.size < k + 1 by omega) HZ.out.symm)
      · have hm0 : m = 0 := by omega
        subst hm0
        have HR : Hid (t = ⟨(Lib.decDigits u).toArray⟩) := Lib.hid (by
          apply b_eq
          rw [b_mk, ← hh.out.2]
          exact (dd_end _ (fun e => h0 (by rw [← ht, ← size_list, e]; rfl))).symm)
        go_wp2
        go_ret
        exact ⟨by rw [← HR.out]; rfl, rfl⟩

/-- '^uint64(n) + 1' of a number below zero. -/
theorem neg_u64 (u : Nat) (h1 : 1 ≤ u) (h2 : u ≤ 9223372036854775808) : IntKind.u64.wrap (bits .xor .u64 IntKind.u64.max (IntKind.u64.wrap (-(u : Int))) + 1) = u := by
  have e1 : IntKind.u64.wrap (-(u : Int)) = ((18446744073709551616 - u : Nat) : Int) := by rw [IntKind.wrap_u64]; omega
  have e2 : IntKind.u64.max = ((2 ^ 64 - 1 : Nat) : Int) := by decide
  rw [e1, e2, bits_xor_u64_nat _ _ (by decide) (by omega), Lib.xor_ones64 _ (by omega), IntKind.wrap_u64]
  omega

/-- R07.Int -/
theorem RInt_any (n : Int) (h0 : -9223372036854775808 ≤ n) (h1 : n ≤ 9223372036854775807) (w : World) :
    Calls Tryd.prog 25 #[.int .i64 n] w fun e w' => e = .returned (.string ⟨(Lib.itoa n).toArray⟩) ∧ w = w' := by
  by_cases hn : 0 ≤ n
  · obtain ⟨u, rfl⟩ : ∃ u : Nat, n = (u : Int) := ⟨n.toNat, by omega⟩
    have HC := Lib.hid (natural_any u (by omega) w)
    have HE := Lib.hid (Lib.itoa_nonneg u)
    have hw : IntKind.u64.wrap (u : Int) = u := by rw [IntKind.wrap_u64]; omega
    go_enter Tryd.func25, Tryd.ntmps25
    go_wp2_with fail
    refine HC.out.mono ?_; rintro e w' ⟨rfl, rfl⟩
    go_wp2
    go_ret
    exact ⟨by rw [HE.out]; rfl, rfl⟩
  · obtain ⟨u, hu⟩ : ∃ u : Nat, n = -(u : Int) := ⟨(-n).toNat, by omega⟩
    subst hu
    have HC := Lib.hid (natural_any u (by omega) w)
    have HE := Lib.hid (Lib.itoa_neg u (by omega))
    have HN := Lib.hid (neg_u64 u (by omega) (by omega))
    have hD : (⟨(Lib.decDigits u).toArray⟩ : ByteArray).size ≤ 21 := by
      have := Lib.itoa_length_le (-(u : Int)) h0 h1
      rw [HE.out, List.length_cons] at this
      rw [bsize_mk]; omega
    have HV : Hid ((⟨#[45]⟩ : ByteArray) ++ ⟨(Lib.decDigits u).toArray⟩ = ⟨(Lib.itoa (-(u : Int))).toArray⟩) := Lib.hid (b_eq (by rw [b_app, b_mk, HE.out, b_mk]; rfl))
    clear HE
    generalize (⟨(Lib.decDigits u).toArray⟩ : ByteArray) = D at *
    go_enter Tryd.func25, Tryd.ntmps25
    go_wp2_with fail
    rw [HN.out]
    refine HC.out.mono ?_; rintro e w' ⟨rfl, rfl⟩
    go_wp2
    go_ret
    exact ⟨congrArg (fun b => Ending.returned (.string b)) HV.out, rfl⟩
end Go.Proofs.YtfpknhhhjgdjbaaDoor
