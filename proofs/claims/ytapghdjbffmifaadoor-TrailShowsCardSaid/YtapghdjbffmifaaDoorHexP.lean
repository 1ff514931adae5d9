/-
  The hexadecimal form: the walks of digest.Hex, Unhex and of the reference's. Conditions: numbers are uint64, strings fit in memory; the listed variables hold what the program's text lays.
-/
import Derived.Test.YtapghdjbffmifaaDoorHexA
import Derived.Test.YtapghdjbffmifaaDoorCtx
import Derived.Test.YtapghdjbffmifaaDoorLib2
namespace Go.Proofs.YtapghdjbffmifaaDoor
open Go.RowKit
set_option maxRecDepth 100000

def hex16 (u : Int) : List UInt8 := hexLow u 16
theorem hexLow_zero (u : Int) (j : Nat) (h0 : 0 ≤ u) (h : u < 16 ^ j) : hexLow u (j + 1) = 48 :: hexLow u j := by
  have : u / 16 ^ j = 0 := Int.ediv_eq_zero_of_lt h0 h
  simp [hexLow, this]; rfl
theorem pow16_mono {i j : Nat} (h : i ≤ j) : (16 : Int) ^ i ≤ 16 ^ j := by
  obtain ⟨k, rfl⟩ := Nat.le.dest h
  rw [Int.pow_add]
  have h1 : (0 : Int) < 16 ^ i := Int.pow_pos (by omega)
  have h2 : (0 : Int) < 16 ^ k := Int.pow_pos (by omega)
  calc (16 : Int) ^ i = 16 ^ i * 1 := by omega
    _ ≤ 16 ^ i * 16 ^ k := Int.mul_le_mul_of_nonneg_left (by omega) (by omega)

/-- strconv.FormatUint(h, 16) -/
theorem FormatUint16 (u : Int) (hu : U64 u) (w : World) (hc : CtxP w) :
    Calls Tryd.prog 63 #[.int .u64 u, .int .i64 16] w fun e w' =>
      ∃ j : Nat, 1 ≤ j ∧ j ≤ 16 ∧ u < 16 ^ j ∧ e = .returned (.string ⟨(hexLow u j).toArray⟩) ∧ Below w.heap.size w w' := by
  have hf := formatBits16 u hu w hc.here.tz
  have H := Lib.hid hf; clear hf
  go_enter Tryd.func63, Tryd.ntmps63
  go_wp2_with (first | (go_at_call 95; refine (H.out).mono ?_; rintro e w' ⟨j, h1, h2, h3, _, rfl, hb⟩) | go_in)
  go_ret
  exact ⟨j, h1, h2, h3, rfl, hb⟩

/-- digest.Hex -/
theorem Hex_any (u : Int) (hu : U64 u) (w : World) (hc : CtxP w) :
    Calls Tryd.prog 33 #[.int .u64 u] w fun e w' => e = .returned (.string ⟨(hex16 u).toArray⟩) ∧ Below w.heap.size w w' := by
  go_enter Tryd.func33, Tryd.ntmps33
  go_wp2_with fail
  refine (FormatUint16 u hu _ hc).mono ?_; rintro e w1 ⟨j, h1, h2, h3, rfl, hb⟩
  have HB := Lib.hid hb; clear hb
  go_wp2_with fail
  go_loop [3] (fun s => ∃ t : ByteArray, s = .string t ∧ j ≤ t.size ∧ t.size ≤ 16 ∧ Hid (t = ⟨(hexLow u t.size).toArray⟩)) (fun s => match s with | .string t => 16 - t.size | _ => 0)
  case atStart => exact ⟨_, rfl, by rw [bsize_mk, hexLow_length]; omega, by rw [bsize_mk, hexLow_length]; omega, Lib.hid (by rw [bsize_mk, hexLow_length])⟩
  case round =>
    obtain ⟨t, rfl, t0, t1, ht⟩ := hrel
    by_cases hlt : t.size < 16
    · go_wp2
      go_round
      case rel =>
        have hs : ((⟨#[48]⟩ : ByteArray) ++ t).size = t.size + 1 := by rw [bsize_app]; show 1 + t.size = _; omega
        refine ⟨_, rfl, by omega, by omega, Lib.hid ?_⟩
        rw [hs, hexLow_zero u t.size hu.1 (Int.lt_of_lt_of_le h3 (pow16_mono t0))]
        apply b_eq
        rw [b_app, b_mk, (congrArg (fun x : ByteArray => x.data.toList) ht.out).trans (b_mk _)]
        rfl
      case measure => simp only []; have hs : ((⟨#[48]⟩ : ByteArray) ++ t).size = t.size + 1 := by rw [bsize_app]; show 1 + t.size = _; omega
                      omega
    · go_wp2
      go_ret
      have h16 : t.size = 16 := by omega
      have := ht.out
      rw [h16] at this
      exact ⟨by rw [this]; rfl, HB.out⟩

theorem cut16 : ∀ d : Fin 16, (⟨#[48, 49, 50, 51, 52, 53, 54, 55, 56, 57, 97, 98, 99, 100, 101, 102]⟩ : ByteArray).extract d.val (d.val + 1) = ⟨#[hexd d.val]⟩ := by decide +kernel
theorem cut16' (d : Nat) (h : d < 16) : (⟨#[48, 49, 50, 51, 52, 53, 54, 55, 56, 57, 97, 98, 99, 100, 101, 102]⟩ : ByteArray).extract d (d + 1) = ⟨#[hexd d]⟩ := cut16 ⟨d, h⟩
/-- R08.Hex -/
theorem RHex_any (u : Int) (hu : U64 u) (w : World) :
    Calls Tryd.prog 34 #[.int .u64 u] w fun e w' => e = .returned (.string ⟨(hex16 u).toArray⟩) ∧ w = w' := by
  obtain ⟨u0, u1⟩ := hu
  go_enter Tryd.func34, Tryd.ntmps34
  go_wp2
  go_loop [0, 3, 4] (fun h s i => ∃ (k : Nat) (m : Int) (t : ByteArray), i = .int .i64 k ∧ k ≤ 16 ∧ h = .int .u64 m ∧ 0 ≤ m ∧ m ≤ 18446744073709551615 ∧ s = .string t ∧ t.size ≤ 16 ∧ Hid (m = u / 16 ^ k ∧ t = ⟨(hexLow u k).toArray⟩)) (fun _ _ i => 16 - (intOf i).toNat)
  case atStart => exact ⟨0, u, _, rfl, by omega, rfl, u0, u1, rfl, by decide, Lib.hid ⟨by simp, rfl⟩⟩
  case round =>
    obtain ⟨k, m, t, rfl, hk, rfl, m0, m1, rfl, t1, hh⟩ := hrel
    by_cases hlt : k < 16
    · obtain ⟨d, hd⟩ : ∃ d : Nat, m % 16 = (d : Int) := ⟨(m % 16).toNat, by omega⟩
      have hd16 : d < 16 := by omega
      have c1 := cut16' d hd16
      go_wp2
      go_round
      case rel =>
        have hs : ((⟨#[hexd d]⟩ : ByteArray) ++ t).size = t.size + 1 := by rw [bsize_app]; show 1 + t.size = _; omega
        have ht : t.size = k := by rw [hh.out.2, bsize_mk, hexLow_length]
        refine ⟨k + 1, _, _, by go_num, by omega, rfl, by omega, by omega, rfl, by rw [hs]; omega, Lib.hid ⟨by rw [hh.out.1, div16_step], ?_⟩⟩
        have hdd : (u / 16 ^ k % 16).toNat = d := by rw [← hh.out.1]; omega
        rw [hexLow, hdd]
        apply b_eq
        rw [b_app, b_mk, hh.out.2, b_mk]
        rfl
      case measure => simp [intOf]; omega
    · go_wp2
      go_ret
      obtain rfl : k = 16 := by omega
      exact ⟨by rw [hh.out.2]; rfl, rfl⟩
end Go.Proofs.YtapghdjbffmifaaDoor
