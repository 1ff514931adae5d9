/-
  The hexadecimal form: the walks of digest.Hex, Unhex and of the reference's. Conditions: numbers are uint64, strings fit in memory; the listed variables hold what the program's text lays.
-/
import Derived.Test.YtapghdjbffmifaaDoorHexB
import Derived.Test.YtapghdjbffmifaaDoorCtx
import Derived.Test.YtapghdjbffmifaaDoorLib2
namespace Go.Proofs.YtapghdjbffmifaaDoor
open Go.RowKit
set_option maxRecDepth 100000

def hex16 (u : Int) : List UInt8 := hexLow u 16
theorem hexLow_zero (u : Int) (j : Nat) (h0 : 0 ≤ u) (h : u < 16 ^ j) : hexLow u (j + 1) = 48 :: hexLow u j := by
  have : u / 16 ^ j = 0 := Int.ediv_eq_zero_of_lt h0 h
  simp [hexLow, this]; rfl
theorem pow16_mono {i j : Nat} (h : i ≤ j) : (16 : Int) ^ i ≤ 16 ^ j := by
  obtain ⟨k, rfl⟩ := Nat.le.dest h
  rw [Int.pow_add]
  have h1 : (0 : Int) < 16 ^ i := Int.pow_pos (by omega)
  have h2 : (0 : Int) < 16 ^ k := Int.pow_pos (by omega)
  calc (16 : Int) ^ i = 16 ^ i * 1 := by omega
    _ ≤ 16 ^ i * 16 ^ k := Int.mul_le_mul_of_nonneg_left (by omega) (by omega)

/-- strconv.FormatUint(h, 16) -/
theorem FormatUint16 (u : Int) (hu : U64 u) (w : World) (hc : Ctx w) :
    Calls Tryd.prog 63 #[.int .u64 u, .int .i64 16] w fun e w' =>
      ∃ j : Nat, 1 ≤ j ∧ j ≤ 16 ∧ u < 16 ^ j ∧ e = .returned (.string ⟨(hexLow u j).toArray⟩) ∧ Below w.heap.size w w' := by
  have hf := formatBits16 u hu w hc.here.tz
  have H := Lib.hid hf; clear hf
  go_enter Tryd.func63, Tryd.ntmps63
  go_wp2_with (first | (go_at_call 95; refine (H.out).mono ?_; rintro e w' ⟨j, h1, h2, h3, _, rfl, hb⟩) | go_in)
  go_ret
  exact ⟨j, h1, h2, h3, rfl, hb⟩

/-- digest.Hex -/
theorem Hex_any (u : Int) (hu : U64 u) (w : World) (hc : Ctx w) :
    Calls Tryd.prog 33 #[.int .u64 u] w fun e w' => e = .returned (.string ⟨(hex16 u).toArray⟩) ∧ Below w.heap.size w w' := by
  go_enter Tryd.func33, Tryd.ntmps33
  go_wp2_with fail
  refine (FormatUint16 u hu _ hc).mono ?_; rintro e w1 ⟨j, h1, h2, h3, rfl, hb⟩
  have HB := Lib.hid hb; clear hb
  go_wp2_with fail
  go_loop [3] (fun s => ∃ t : ByteArray, s = .string t ∧ j ≤ t.size ∧ t.size ≤ 16 ∧ Hid (t = ⟨(hexLow u t.size).toArray⟩)) (fun s => match s with | .string t => 16 - t.size | _ => 0)
  case atStart => exact ⟨_, rfl, by rw [bsize_mk, hexLow_length]; omega, by rw [bsize_mk, hexLow_length]; omega, Lib.hid (by rw [bsize_mk, hexLow_length])⟩
  case round =>
    obtain ⟨t, rfl, t0, t1, ht⟩ := hrel
    by_cases hlt : t.size < 16
    · go_wp2
      go_round
      case rel =>
        have hs : ((⟨#[48]⟩ : ByteArray) ++ t).size = t.size + 1 := by rw [bsize_app]; show 1 + t.size = _; omega
        refine ⟨_, rfl, by omega, by omega, Lib.hid ?_⟩
        rw [hs, hexLow_zero u t.size hu.1 (Int.lt_of_lt_of_le h3 (pow16_mono t0))]
        apply b_eq
        rw [b_app, b_mk, (congrArg (fun x : ByteArray => x.data.toList) ht.out).trans (b_mk _)]
        rfl
      case measure => simp only []; have hs : ((⟨#[48]⟩ : ByteArray) ++ t).size = t.size + 1 := by rw [bsize_app]; show 1 + t.size = _; omega
                      omega
    · go_wp2
      go_ret
      have h16 : t.size = 16 := by omega
      have := ht.out
      rw [h16] at this
      exact ⟨by rw [this]; rfl, HB.out⟩

theorem cut16 : ∀ d : Fin 16, (⟨#[48, 49, 50, 51, 52, 53, 54, 55, 56, 57, 97, 98, 99, 100, 101, 102]⟩ : ByteArray).extract d.val (d.val + 1) = ⟨#[hexd d.val]⟩ := by decide +kernel
theorem cut16' (d : Nat) (h : d < 16) : (⟨#[48, 49, 50, 51, 52, 53, 54, 55, 56, 57, 97, 98, 99, 100, 101, 102]⟩ : ByteArray).extract d (d + 1) = ⟨#[hexd d]⟩ := cut16 ⟨d, h⟩
/-- R08.Hex -/
theorem RHex_any (u : Int) (hu : U64 u) (w : World) :
    Calls Tryd.prog 34 #[.int .u64 u] w fun e w' => e = .returned (.string ⟨(hex16 u).toArray⟩) ∧ w = w' := by
  obtain ⟨u0, u1⟩ := hu
  go_enter Tryd.func34, Tryd.ntmps34
  go_wp2
  go_loop [0, 3, 4] (fun h s i => ∃ (k : Nat) (m : Int) (t : ByteArray), i = .int .i64 k ∧ k ≤ 16 ∧ h = .int .u64 m ∧ 0 ≤ m ∧ m ≤ 18446744073709551615 ∧ s = .string t ∧ t.size ≤ 16 ∧ Hid (m = u / 16 ^ k ∧ t = ⟨(hexLow u k).toArray⟩)) (fun _ _ i => 16 - (intOf i).toNat)
  case atStart => exact ⟨0, u, _, rfl, by omega, rfl, u0, u1, rfl, by decide, Lib.hid ⟨by simp, rfl⟩⟩
  case round =>
    obtain ⟨k, m, t, rfl, hk, rfl, m0, m1, rfl, t1, hh⟩ := hrel
    by_cases hlt : k < 16
    · obtain ⟨d, hd⟩ : ∃ d : Nat, m % 16 = (d : Int) := ⟨(m % 16).toNat, by omega⟩
      have hd16 : d < 16 := by omega
      have c1 := cut16' d hd16
      go_wp2
      go_round
      case rel =>
        have hs : ((⟨#[hexd d]⟩ : ByteArray) ++ t).size = t.size + 1 := by rw [bsize_app]; show 1 + t.size = _; omega
        have ht : t.size = k := by rw [hh.out.2, bsize_mk, hexLow_length]
        refine ⟨k + 1, _, _, by go_num, by omega, rfl, by omega, by omega, rfl, by rw [hs]; omega, Lib.hid ⟨by rw [hh.out.1, div16_step], ?_⟩⟩
        have hdd : (u / 16 ^ k % 16).toNat = d := by rw [← hh.out.1]; omega
        rw [hexLow, hdd]
        apply b_eq
        rw [b_app, b_mk, hh.out.2, b_mk]
        rfl
      case measure => simp [intOf]; omega
    · go_wp2
      go_ret
      obtain rfl : k = 16 := by omega
      exact ⟨by rw [hh.out.2]; rfl, rfl⟩

/-- The value of a byte that is a digit of the form, or -1. -/
def hx (c : UInt8) : Int := if 48 ≤ c.toNat ∧ c.toNat ≤ 57 then c.toNat - 48 else if 97 ≤ c.toNat ∧ c.toNat ≤ 102 then c.toNat - 87 else -1
theorem hx_bd (c : UInt8) : -1 ≤ hx c ∧ hx c ≤ 15 := by unfold hx; repeat' split <;> omega
/-- R08.hex -/
theorem Rhexd_any (c : UInt8) (w : World) :
    Calls Tryd.prog 62 #[.int .u8 c.toNat] w fun e w' => e = .returned (.int .i64 (hx c)) ∧ w = w' := by
  have hb := byte_lt c
  by_cases h1 : 48 ≤ c.toNat ∧ c.toNat ≤ 57
  · have hv := Lib.hid (show hx c = (c.toNat : Int) - 48 by unfold hx; rw [if_pos h1])
    obtain ⟨a, b⟩ := h1
    go_enter Tryd.func62, Tryd.ntmps62
    go_wp2
    go_ret
    exact ⟨ret_int hv.out.symm, rfl⟩
  · by_cases h2 : 97 ≤ c.toNat ∧ c.toNat ≤ 102
    · have hv := Lib.hid (show hx c = (c.toNat : Int) - 97 + 10 by unfold hx; rw [if_neg h1, if_pos h2]; omega)
      obtain ⟨a, b⟩ := h2
      have h3 : ¬ (c.toNat : Int) ≤ 57 := by omega
      clear h1
      go_enter Tryd.func62, Tryd.ntmps62
      go_wp2
      go_ret
      exact ⟨ret_int hv.out.symm, rfl⟩
    · have hv := Lib.hid (show hx c = -1 by unfold hx; rw [if_neg h1, if_neg h2])
      rcases (show c.toNat < 48 ∨ (57 < c.toNat ∧ c.toNat < 97) ∨ 102 < c.toNat by omega) with h | ⟨h, h'⟩ | h
      all_goals
        clear h1 h2
        go_enter Tryd.func62, Tryd.ntmps62
        go_wp2
        go_ret
        exact ⟨ret_int hv.out.symm, rfl⟩

/-- All bytes are digits of the form; the value. -/
def hxl (l : List UInt8) : Bool := l.all fun c => decide (0 ≤ hx c)
def hxv (l : List UInt8) : Int := l.foldl (fun n c => IntKind.u64.wrap (IntKind.u64.wrap (16 * n) + hx c)) 0
theorem hxv_snoc (l : List UInt8) (c : UInt8) : hxv (l ++ [c]) = IntKind.u64.wrap (IntKind.u64.wrap (16 * hxv l) + hx c) := by simp [hxv]
def unhexT (l : List UInt8) : Int × Int := if l.length = 16 ∧ hxl l = true then (hxv l, 0) else (0, 2)

/-- R08.Unhex -/
theorem RUnhex_any (s : ByteArray) (w : World) :
    Calls Tryd.prog 32 #[.string s] w fun e w' => e = .returned (.tuple #[.int .u64 (unhexT s.data.toList).1, .int .i64 (unhexT s.data.toList).2]) ∧ w = w' := by
  have hsz := size_list s
  by_cases h1 : s.size = 16
  · have HU : Hid (unhexT s.data.toList = if hxl s.data.toList = true then (hxv s.data.toList, 0) else (0, 2)) := Lib.hid (by unfold unhexT; rw [hsz]; simp [h1])
    have hne : ((s.size : Int) != 16) = false := by simp; omega
    have hle : s.size ≤ 16 := by omega
    have hge : 16 ≤ s.size := by omega
    have H1 := Lib.hid h1
    clear hsz h1
    go_enter Tryd.func32, Tryd.ntmps32
    go_wp2
    go_loop [4, 5] (fun h i => ∃ (k : Nat) (m : Int), i = .int .i64 k ∧ k ≤ 16 ∧ h = .int .u64 m ∧ Hid (m = hxv (s.data.toList.take k) ∧ hxl (s.data.toList.take k) = true)) (fun _ i => 16 - (intOf i).toNat)
    case atStart => exact ⟨0, 0, rfl, by omega, rfl, Lib.hid ⟨rfl, rfl⟩⟩
    case round =>
      obtain ⟨k, m, rfl, hk, rfl, hh⟩ := hrel
      by_cases hlt : k < 16
      · have hlt' : k < s.size := by omega
        have hb := hx_bd s[k]
        have HX : Hid (s.data.toList.take (k + 1) = s.data.toList.take k ++ [s[k]]) := Lib.hid (take_snoc s k hlt')
        have HG := Lib.hid (byte_get s k hlt')
        have hc := Rhexd_any s[k]
        have HX1 : Hid (hxl (s.data.toList.take (k + 1)) = decide (0 ≤ hx s[k])) := Lib.hid (by rw [HX.out]; have := hh.out.2; unfold hxl at this ⊢; rw [List.all_append, this]; simp)
        have HX2 : Hid (hxv (s.data.toList.take (k + 1)) = IntKind.u64.wrap (IntKind.u64.wrap (16 * m) + hx s[k])) := Lib.hid (by rw [HX.out, hxv_snoc, ← hh.out.1])
        have HX3 : Hid (hx s[k] < 0 → hxl s.data.toList = false) := Lib.hid fun h => by
          unfold hxl; rw [List.all_eq_false]; exact ⟨s[k], List.mem_of_getElem? HG.out, by simp; omega⟩
        generalize hx s[k] = y at hb hc HX1 HX2 HX3
        obtain ⟨y0, y1⟩ := hb
        have HC := Lib.hid hc; clear hc
        by_cases hy : y < 0
        · go_wp2_with fail
          refine (HC.out _).mono ?_; rintro e w' ⟨rfl, rfl⟩
          go_wp2
          go_ret2
          exact ⟨by rw [HU.out, HX3.out hy]; rfl, rfl⟩
        · have hy0 : 0 ≤ y := by omega
          go_wp2_with fail
          refine (HC.out _).mono ?_; rintro e w' ⟨rfl, rfl⟩
          go_wp2
          go_round
          case rel => exact ⟨k + 1, _, by go_num, by omega, rfl, Lib.hid ⟨by rw [HX2.out], by rw [HX1.out]; simp; omega⟩⟩
          case measure => simp [intOf]; omega
      · obtain rfl : k = 16 := by omega
        have hh' := hh.out
        rw [take_all s 16 (by omega)] at hh'
        have H2 := Lib.hid hh'; clear hh hh'
        go_wp2
        go_ret2
        exact ⟨by rw [HU.out, if_pos H2.out.2, ← H2.out.1]; rfl, rfl⟩
  · have HU : Hid (unhexT s.data.toList = (0, 2)) := Lib.hid (by unfold unhexT; rw [hsz]; simp [h1])
    have hne : ((s.size : Int) != 16) = true := by simp; omega
    clear hsz h1
    go_enter Tryd.func32, Tryd.ntmps32
    go_wp2
    go_ret2
    exact ⟨by rw [HU.out]; rfl, rfl⟩

/-- What the library's ParseUint makes of a text: nothing is no number. -/
def pvalE (l : List UInt8) : Option Int := if l = [] then none else pval16 0 l
theorem empty_of_size {t : ByteArray} (h : t.size = 0) : t = ⟨#[]⟩ := by apply b_eq; exact List.eq_nil_of_length_eq_zero (by rw [size_list, h])
theorem iParse16_empty (w : World) :
    Calls Tryd.prog 80 #[.string ⟨#[]⟩, .int .i64 16, .int .i64 64] w fun e w' => e = .returned (.tuple #[.int .u64 0, .iface 86 (.int .i64 2)]) ∧ w = w' := by
  go_enter Tryd.func80, Tryd.ntmps80
  go_wp2
  go_ret2
  exact ⟨rfl, rfl⟩
theorem toError_any (fn s : ByteArray) (base bits c : Int) (hcc : c = 1 ∨ c = 2) (w : World) (hlim : s.size ≤ 281474976710656) (hc : Ctx w) :
    Calls Tryd.prog 81 #[.string fn, .string s, .int .i64 base, .int .i64 bits, .iface 86 (.int .i64 c)] w fun e w' => ∃ N, e = .returned (.iface 89 (.pointer (some ⟨N, 0, none⟩))) ∧ Below w.heap.size w w' := by
  rcases hcc with rfl | rfl
  · obtain ⟨te, pe, h⟩ := hc.here.errR
    exact (Tryd.strconv_toError_range fn s base bits _ w hlim h (.inr ⟨te, pe, rfl⟩)).mono fun _ _ ⟨N, he, _, _, hb⟩ => ⟨N, he, hb⟩
  · obtain ⟨te, pe, h⟩ := hc.here.errS
    exact (Tryd.strconv_toError_syntax fn s base bits _ w hlim h (.inr ⟨te, pe, rfl⟩)).mono fun _ _ ⟨N, he, _, _, hb⟩ => ⟨N, he, hb⟩

/-- strconv.ParseUint(s, 16, 64), where it gives a number -/
theorem Parse16_yes (t : ByteArray) (hmax : t.size ≤ 281474976710656) (n : Int) (hv : pvalE t.data.toList = some n) (w : World) :
    Calls Tryd.prog 61 #[.string t, .int .i64 16, .int .i64 64] w fun e w' => e = .returned (.tuple #[.int .u64 n, .nilIface]) ∧ Below w.heap.size w w' := by
  have h0 : t.size ≠ 0 := fun h => by rw [empty_of_size h] at hv; simp [pvalE] at hv
  have hv2 : pval16 0 t.data.toList = some n := by unfold pvalE at hv; split at hv; cases hv; exact hv
  have hp := iParse16 t h0 (by unfold maxLen; omega) w
  have HP := Lib.hid hp
  have HV := Lib.hid hv2
  clear hp hv hv2 h0
  go_enter Tryd.func61, Tryd.ntmps61
  go_wp2_with fail
  refine HP.out.mono ?_
  rintro e w1 ⟨hpp, hb⟩
  obtain rfl := hpp.1 n HV.out
  have HB := Lib.hid hb; clear hb hpp
  go_wp2
  go_ret2
  exact ⟨rfl, HB.out⟩
/-- strconv.ParseUint(s, 16, 64), where it gives none -/
theorem Parse16_no (t : ByteArray) (hmax : t.size ≤ 281474976710656) (hv : pvalE t.data.toList = none) (w : World) (hc : Ctx w) :
    Calls Tryd.prog 61 #[.string t, .int .i64 16, .int .i64 64] w fun e w' => ∃ x y, e = .returned (.tuple #[.int .u64 x, .iface 89 y]) ∧ Below w.heap.size w w' := by
  have hp : Calls Tryd.prog 80 #[.string t, .int .i64 16, .int .i64 64] w fun e w' => (∃ x c, (c = 1 ∨ c = 2) ∧ e = .returned (.tuple #[.int .u64 x, .iface 86 (.int .i64 c)])) ∧ Below w.heap.size w w' := by
    by_cases h0 : t.size = 0
    · rw [empty_of_size h0]
      exact (iParse16_empty w).mono fun e w' ⟨he, hw⟩ => ⟨⟨0, 2, .inr rfl, he⟩, by rw [← hw]; exact Below.refl _ _⟩
    · refine (iParse16 t h0 (by unfold maxLen; omega) w).mono fun e w' ⟨he, hw⟩ => ⟨he.2 ?_, hw⟩
      unfold pvalE at hv
      rw [if_neg (fun h => h0 (by rw [← size_list, h]; rfl))] at hv
      exact hv
  have HP := Lib.hid hp
  clear hp hv
  go_enter Tryd.func61, Tryd.ntmps61
  go_wp2_with fail
  refine HP.out.mono ?_
  rintro e w1 ⟨⟨x, c, hcc, rfl⟩, hb⟩
  have hc1 := hc.on hb
  have HB := Lib.hid hb; clear hb
  go_wp2_with fail
  refine (toError_any _ _ _ _ c hcc _ hmax hc1).mono ?_
  rintro e w2 ⟨N, rfl, hb2⟩
  have HB2 := Lib.hid hb2; clear hb2
  go_wp2
  go_ret2
  exact ⟨_, _, rfl, Below.then HB.out HB2.out⟩

/-- digest.Unhex, in the library's own words. -/
def unhexP (l : List UInt8) : Int × Int := match pvalE l with
  | none => (0, 2)
  | some h => if hex16 h = l then (h, 0) else (0, 2)
theorem strb (l : List UInt8) (t : ByteArray) : (l == t.toList) = decide (l = t.data.toList) := by rw [ByteArray.toList_eq]; by_cases h : l = t.data.toList <;> simp [h]
theorem Unhex_any (s : ByteArray) (hmax : s.size ≤ 281474976710656) (hn : ∀ n, pvalE s.data.toList = some n → U64 n) (w : World) (hc : Ctx w) :
    Calls Tryd.prog 31 #[.string s] w fun e w' => e = .returned (.tuple #[.int .u64 (unhexP s.data.toList).1, .int .i64 (unhexP s.data.toList).2]) ∧ Below w.heap.size w w' := by
  rcases hv : pvalE s.data.toList with _ | n
  · have HU : Hid (unhexP s.data.toList = (0, 2)) := Lib.hid (by unfold unhexP; rw [hv])
    have HP := Lib.hid (Parse16_no s hmax hv w hc)
    clear hv hn
    go_enter Tryd.func31, Tryd.ntmps31
    go_wp2_with fail
    refine HP.out.mono ?_
    rintro e w1 ⟨x, y, rfl, hb⟩
    have HB := Lib.hid hb; clear hb
    go_wp2
    go_ret2
    exact ⟨by rw [HU.out]; rfl, HB.out⟩
  · have HU : Hid (unhexP s.data.toList = if hex16 n = s.data.toList then (n, 0) else (0, 2)) := Lib.hid (by unfold unhexP; rw [hv])
    have hn1 := hn n hv
    have HP := Lib.hid (Parse16_yes s hmax n hv w)
    clear hv hn
    go_enter Tryd.func31, Tryd.ntmps31
    go_wp2_with fail
    refine HP.out.mono ?_
    rintro e w1 ⟨rfl, hb⟩
    have hc1 := hc.on hb
    have HB := Lib.hid hb; clear hb
    go_wp2_with fail
    refine (Hex_any n hn1 _ hc1).mono ?_
    rintro e w2 ⟨rfl, hb2⟩
    have HB2 := Lib.hid hb2; clear hb2
    by_cases hx : hex16 n = s.data.toList
    · have hb : (hex16 n == s.toList) = true := by rw [strb, hx]; simp
      have HX := Lib.hid hx; clear hx
      go_wp2
      go_ret2
      exact ⟨by rw [HU.out, if_pos HX.out]; rfl, Below.then HB.out HB2.out⟩
    · have hb : (hex16 n == s.toList) = false := by rw [strb]; simp [hx]
      have HX := Lib.hid hx; clear hx
      go_wp2
      go_ret2
      exact ⟨by rw [HU.out, if_neg HX.out]; rfl, Below.then HB.out HB2.out⟩

/-! The two ways to read a form are one. -/
theorem pval16_u64 : ∀ (l : List UInt8) (a n : Int), U64 a → pval16 a l = some n → U64 n
  | [], a, n, ha, h => by unfold pval16 at h; cases h; exact ha
  | c :: l, a, n, ha, h => by
    unfold pval16 at h
    rcases hh : hv c with _ | d
    · rw [hh] at h; cases h
    · rw [hh] at h
      have hd : d ≤ 15 := by
        unfold hv at hh
        repeat' split at hh
        all_goals first | (cases hh; done) | (injection hh; omega)
      by_cases hc : 1152921504606846976 ≤ a
      · simp [hc] at h
      · simp only [hc, if_false] at h
        exact pval16_u64 l _ n (by unfold U64 at *; omega) h
theorem pvalE_u64 {l : List UInt8} {n : Int} (h : pvalE l = some n) : U64 n := by
  unfold pvalE at h
  split at h
  · cases h
  · exact pval16_u64 l 0 n (by unfold U64; omega) h
theorem hx_hexd : ∀ d : Fin 16, hx (hexd d.val) = d.val ∧ hv (hexd d.val) = some d.val := by decide +kernel
theorem hexd_hx_fin : ∀ c : Fin 256, 0 ≤ hx (UInt8.ofNat c.val) → hexd (hx (UInt8.ofNat c.val)).toNat = UInt8.ofNat c.val ∧ hv (UInt8.ofNat c.val) = some (hx (UInt8.ofNat c.val)).toNat := by decide +kernel
theorem hexd_hx (c : UInt8) (h : 0 ≤ hx c) : hexd (hx c).toNat = c ∧ hv c = some (hx c).toNat := by
  have := hexd_hx_fin ⟨c.toNat, byte_lt c⟩
  simp only [UInt8.ofNat_toNat] at this
  exact this h
/-- Going on from a number of which k nibbles are known. -/
theorem pval16_hx : ∀ (l : List UInt8) (a : Int) (k : Nat), 0 ≤ a → a < 16 ^ k → k + l.length ≤ 16 → hxl l = true →
    ∃ n, pval16 a l = some n ∧ 0 ≤ n ∧ n < 16 ^ (k + l.length) ∧ n / 16 ^ l.length = a ∧ l.foldl (fun n c => IntKind.u64.wrap (IntKind.u64.wrap (16 * n) + hx c)) a = n ∧ hexLow n l.length = l
  | [], a, k, h0, h1, _, _ => ⟨a, rfl, h0, by simpa using h1, by simp, rfl, rfl⟩
  | c :: l, a, k, h0, h1, h2, h3 => by
    unfold hxl at h3
    rw [List.all_cons, Bool.and_eq_true, decide_eq_true_eq] at h3
    obtain ⟨e1, e2⟩ := hexd_hx c h3.1
    have hb := hx_bd c
    have hk : k + 1 ≤ 16 := by simp at h2; omega
    have hp : (16 : Int) ^ (k + 1) ≤ 16 ^ 16 := pow16_mono hk
    have hp2 : (16 : Int) ^ (k + 1) = 16 * 16 ^ k := by rw [Int.pow_succ, Int.mul_comm]
    have hp3 : (16 : Int) ^ 16 = 18446744073709551616 := by decide
    have ha : a < 1152921504606846976 := by
      have : (16 : Int) ^ k ≤ 16 ^ 15 := pow16_mono (by omega)
      have h15 : (16 : Int) ^ 15 = 1152921504606846976 := by decide
      omega
    obtain ⟨n, g1, g2, g3, g4, g5, g6⟩ := pval16_hx l (16 * a + hx c) (k + 1) (by omega) (by rw [hp2]; omega) (by simp at h2; omega) (by unfold hxl; exact h3.2)
    have hw : IntKind.u64.wrap (IntKind.u64.wrap (16 * a) + hx c) = 16 * a + hx c := by
      rw [IntKind.wrap_u64, IntKind.wrap_u64]; omega
    refine ⟨n, ?_, g2, by rw [show k + (c :: l).length = k + 1 + l.length by simp; omega]; exact g3, ?_, by rw [List.foldl_cons, hw]; exact g5, ?_⟩
    · rw [pv_go e2 (by omega), ← g1]; congr 1; omega
    · rw [List.length_cons, ← div16_step, g4]; omega
    · rw [List.length_cons, hexLow, g4, g6, show ((16 * a + hx c) % 16).toNat = (hx c).toNat by omega, e1]
theorem hexLow_hxl (n : Int) (k : Nat) : hxl (hexLow n k) = true := by
  induction k with
  | zero => rfl
  | succ k ih =>
    unfold hxl at ih ⊢
    rw [hexLow, List.all_cons, ih, Bool.and_true, decide_eq_true_eq]
    have := hx_hexd ⟨((n / 16 ^ k) % 16).toNat, by omega⟩
    rw [this.1]; omega
theorem unhex_same (l : List UInt8) : unhexP l = unhexT l := by
  by_cases h : l.length = 16 ∧ hxl l = true
  · obtain ⟨n, g1, _, _, _, g5, g6⟩ := pval16_hx l 0 0 (by omega) (by decide) (by omega) h.2
    unfold unhexP unhexT
    rw [if_pos h]
    have : pvalE l = some n := by unfold pvalE; rw [if_neg (fun e => by rw [e] at h; simp at h)]; exact g1
    rw [this]
    have h16 : hex16 n = l := by unfold hex16; rw [← h.1]; exact g6
    simp only [h16, if_true]
    unfold hxv; rw [g5]
  · unfold unhexP unhexT
    rw [if_neg h]
    rcases pvalE l with _ | n
    · rfl
    · have : hex16 n ≠ l := fun e => h (by rw [← e]; exact ⟨hexLow_length n 16, hexLow_hxl n 16⟩)
      simp [this]
theorem hexd_inj_fin : ∀ d e : Fin 16, hexd d.val = hexd e.val → d = e := by decide +kernel
theorem hexLow_mod : ∀ (j : Nat) (m : Int) (k : Nat), j ≤ k → hexLow (m % 16 ^ k) j = hexLow m j
  | 0, _, _, _ => rfl
  | j + 1, m, k, h => by
    rw [hexLow, hexLow, hexLow_mod j m k (by omega)]
    congr 3
    obtain ⟨i, rfl⟩ := Nat.le.dest h
    have hp : (16 : Int) ^ (j + 1 + i) = 16 ^ j * (16 * 16 ^ i) := by rw [Int.pow_add, Int.pow_succ, Int.mul_assoc]
    have hq : (0 : Int) < 16 ^ j := Int.pow_pos (by omega)
    rw [hp, Int.emod_def m, show m - 16 ^ j * (16 * 16 ^ i) * (m / (16 ^ j * (16 * 16 ^ i))) = m + 16 ^ j * (16 * (-(16 ^ i * (m / (16 ^ j * (16 * 16 ^ i)))))) from by rw [Int.mul_assoc, Int.mul_neg, Int.mul_neg, ← Int.sub_eq_add_neg, Int.mul_assoc 16], Int.add_mul_ediv_left _ _ (by omega), Int.add_mul_emod_self_left]
theorem hexLow_inj : ∀ (k : Nat) (m n : Int), 0 ≤ m → m < 16 ^ k → 0 ≤ n → n < 16 ^ k → hexLow m k = hexLow n k → m = n
  | 0, m, n, h0, h1, h2, h3, _ => by simp at h1 h3; omega
  | k + 1, m, n, h0, h1, h2, h3, h => by
    have hp : (0 : Int) < 16 ^ k := Int.pow_pos (by omega)
    rw [hexLow, hexLow, List.cons.injEq] at h
    have hs : (16 : Int) ^ (k + 1) = 16 * 16 ^ k := by rw [Int.pow_succ, Int.mul_comm]
    have q1 : m / 16 ^ k < 16 := Int.ediv_lt_of_lt_mul hp (by omega)
    have q2 : n / 16 ^ k < 16 := Int.ediv_lt_of_lt_mul hp (by omega)
    have q3 : 0 ≤ m / 16 ^ k := Int.ediv_nonneg h0 (by omega)
    have q4 : 0 ≤ n / 16 ^ k := Int.ediv_nonneg h2 (by omega)
    have e := hexd_inj_fin ⟨((m / 16 ^ k) % 16).toNat, by omega⟩ ⟨((n / 16 ^ k) % 16).toNat, by omega⟩ h.1
    have e' : m / 16 ^ k = n / 16 ^ k := by have := congrArg Fin.val e; simp only at this; omega
    have r : m % 16 ^ k = n % 16 ^ k := by
      refine hexLow_inj k _ _ (Int.emod_nonneg _ (by omega)) (Int.emod_lt_of_pos _ hp) (Int.emod_nonneg _ (by omega)) (Int.emod_lt_of_pos _ hp) ?_
      rw [hexLow_mod k m k (Nat.le_refl _), hexLow_mod k n k (Nat.le_refl _)]; exact h.2
    rw [← Int.mul_ediv_add_emod m (16 ^ k), ← Int.mul_ediv_add_emod n (16 ^ k), e', r]
theorem unhex_hex (n : Int) (hn : U64 n) : unhexT (hex16 n) = (n, 0) := by
  have hl : (hex16 n).length = 16 := hexLow_length n 16
  obtain ⟨m, g1, g2, g3, _, g5, g6⟩ := pval16_hx (hex16 n) 0 0 (by omega) (by decide) (by omega) (hexLow_hxl n 16)
  unfold unhexT
  rw [if_pos ⟨hl, hexLow_hxl n 16⟩]
  have : hxv (hex16 n) = m := g5
  rw [this]
  rw [hl] at g3 g6
  congr 1
  exact hexLow_inj 16 m n g2 (by simpa using g3) hn.1 (by have := hn.2; omega) g6
end Go.Proofs.YtapghdjbffmifaaDoor
