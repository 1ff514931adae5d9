/-
  The number with a hexadecimal form: the plain function, and the walk of the library's ParseUint at base 16. Conditions: strings fit in memory; the library's two error variables hold interface values.
-/
import Derived.Test.YtapghdjbffmifaaDoorHexA
import Derived.Test.YtapghdjbffmifaaDoorShelf
import Derived.Lib.AtoiErrMem
namespace Go.Proofs.YtapghdjbffmifaaDoor
open Go.RowKit
set_option maxRecDepth 100000

/-- The digit of a byte, small or capital. -/
def hv (c : UInt8) : Option Nat :=
  if 48 ≤ c.toNat ∧ c.toNat ≤ 57 then some (c.toNat - 48) else if 97 ≤ c.toNat ∧ c.toNat ≤ 102 then some (c.toNat - 87) else if 65 ≤ c.toNat ∧ c.toNat ≤ 70 then some (c.toNat - 55) else none
def pval16 : Int → List UInt8 → Option Int
  | n, [] => some n
  | n, c :: l => match hv c with
    | none => none
    | some d => if 1152921504606846976 ≤ n then none else pval16 (16 * n + d) l
def PuPost (l : List UInt8) (e : Ending) : Prop :=
  (∀ n, pval16 0 l = some n → e = .returned (.tuple #[.int .u64 n, .nilIface])) ∧
  (pval16 0 l = none → ∃ x c, (c = 1 ∨ c = 2) ∧ e = .returned (.tuple #[.int .u64 x, .iface 86 (.int .i64 c)]))
theorem PuPost.none_ {l : List UInt8} {x c : Int} (h : pval16 0 l = none) (hc : c = 1 ∨ c = 2) : PuPost l (.returned (.tuple #[.int .u64 x, .iface 86 (.int .i64 c)])) :=
  ⟨fun n hn => (by rw [h] at hn; cases hn), fun _ => ⟨x, c, hc, rfl⟩⟩
theorem PuPost.some_ {l : List UInt8} {x : Int} (h : pval16 0 l = some x) : PuPost l (.returned (.tuple #[.int .u64 x, .nilIface])) :=
  ⟨fun n hn => (by rw [h] at hn; cases hn; rfl), fun hn => (by rw [h] at hn; cases hn)⟩
/-- What 'c | 32' is. -/
theorem lower_fin : ∀ c : Fin 256, bits .or .u8 (c.val : Int) 32 = if c.val / 32 % 2 = 1 then (c.val : Int) else (c.val : Int) + 32 := by decide +kernel
theorem lower_at (c : UInt8) : bits .or .u8 (c.toNat : Int) 32 = if c.toNat / 32 % 2 = 1 then (c.toNat : Int) else (c.toNat : Int) + 32 := lower_fin ⟨c.toNat, byte_lt c⟩
theorem hv_dig {c : UInt8} (h : 48 ≤ c.toNat ∧ c.toNat ≤ 57) : hv c = some (c.toNat - 48) := by unfold hv; rw [if_pos h]
theorem hv_let {c : UInt8} {lc : Int} (hl : bits .or .u8 (c.toNat : Int) 32 = lc) (h : ¬ (48 ≤ c.toNat ∧ c.toNat ≤ 57)) (h1 : 97 ≤ lc) (h2 : lc ≤ 102) : hv c = some (lc - 87).toNat := by
  rw [lower_at] at hl
  unfold hv
  rw [if_neg h]
  split at hl
  · rw [if_pos (by omega)]; congr 1; omega
  · have := byte_lt c
    rw [if_neg (by omega), if_pos (by omega)]; congr 1; omega
theorem hv_no {c : UInt8} {lc : Int} (hl : bits .or .u8 (c.toNat : Int) 32 = lc) (h : ¬ (48 ≤ c.toNat ∧ c.toNat ≤ 57)) (h1 : lc < 97 ∨ 102 < lc) : hv c = none := by
  rw [lower_at] at hl
  unfold hv
  rw [if_neg h]
  have := byte_lt c
  split at hl
  · rw [if_neg (by omega), if_neg (by omega)]
  · rw [if_neg (by omega), if_neg (by omega)]
theorem pv_none {n : Int} {c : UInt8} {l : List UInt8} (h : hv c = none) : pval16 n (c :: l) = none := by unfold pval16; rw [h]
theorem pv_cut {n : Int} {c : UInt8} {l : List UInt8} {d : Nat} (h : hv c = some d) (hn : 1152921504606846976 ≤ n) : pval16 n (c :: l) = none := by unfold pval16; rw [h]; simp [hn]
theorem pv_go {n : Int} {c : UInt8} {l : List UInt8} {d : Nat} (h : hv c = some d) (hn : ¬ 1152921504606846976 ≤ n) : pval16 n (c :: l) = pval16 (16 * n + d) l := by conv => lhs; unfold pval16; rw [h]; simp [hn]

set_option maxHeartbeats 4000000 in
/-- internal/strconv.ParseUint(s, 16, 64) -/
theorem iParse16 (t : ByteArray) (hne : t.size ≠ 0) (hmax : t.size ≤ maxLen - 1) (w : World) :
    Calls Tryd.prog 80 #[.string t, .int .i64 16, .int .i64 64] w fun e w' => PuPost t.data.toList e ∧ Below w.heap.size w w' := by
  have hmax' : t.size ≤ 9223372036854775806 := by unfold maxLen at hmax; omega
  have hemp : t.toList.isEmpty = false := by
    rw [← decide_eq_emptyBytes]
    exact decide_eq_false (fun h => hne (by rw [h]; rfl))
  have hcv := Lib.run_convert_string_bytes (P := Tryd.prog) w 9 54 5 t (u := .string) Tryd.underlying9 Tryd.underlying54 Tryd.underlying5
  have hB : ∀ j, j < t.size → (Lib.bytesWorld w 5 t).cell? ⟨w.heap.size, j, none⟩ = some (.int .u8 (t.data.toList.getD j 0).toNat) := fun j hj => Lib.bytesWorld_cell w 5 t j hj
  have hbel : Below w.heap.size w (Lib.bytesWorld w 5 t) := Lib.bytesWorld_below _ _ _
  obtain ⟨W1, hW1⟩ : ∃ W1, W1 = Lib.bytesWorld w 5 t := ⟨_, rfl⟩
  rw [← hW1] at hcv hB hbel
  clear hW1
  have HBel := Lib.hid hbel; clear hbel
  obtain ⟨bs, hL⟩ : ∃ bs, bs = t.data.toList := ⟨_, rfl⟩
  have hLn : bs.length = t.size := by rw [hL, Lib.size_eq]
  rw [← hL] at hB ⊢
  clear hL
  have hmv : IntKind.u64.wrap (IntKind.u64.wrap 18446744073709551616 - 1) = 18446744073709551615 := by
    rw [IntKind.wrap_u64, IntKind.wrap_u64]
    decide
  go_enter Tryd.func80, Tryd.ntmps80
  go_wp2
  go_loop [12, 13, 101] (fun vu vn vi => ∃ (k : Nat) (a : Int), vu = .bool false ∧ vn = .int .u64 a ∧ vi = .int .i64 k ∧ k ≤ t.size ∧ Hid (0 ≤ a ∧ a < 18446744073709551616 ∧ pval16 0 bs = pval16 a (bs.drop k)))
    (fun _ _ vi => t.size - (intOf vi).toNat)
  case atStart => exact ⟨0, 0, rfl, rfl, rfl, by omega, Lib.hid ⟨by omega, by omega, rfl⟩⟩
  case round =>
    obtain ⟨k, a, rfl, rfl, rfl, hk, hh⟩ := hrel
    obtain ⟨a0, a1, hdec⟩ := hh.out
    clear hh
    by_cases hkn : k < t.size
    · have hc := hB k hkn
      have hdrop : bs.drop k = bs[k]'(by omega) :: bs.drop (k + 1) := List.drop_eq_getElem_cons (by omega)
      have hget : bs.getD k 0 = bs[k]'(by omega) := by simp [List.getD, List.getElem?_eq_getElem (show k < bs.length by omega)]
      rw [hdrop] at hdec
      rw [hget] at hc
      generalize bs[k]'(by omega) = c at hc hdec
      have hc256 : c.toNat < 256 := c.toNat_lt
      clear hB hdrop hget
      have HD := Lib.hid hdec; clear hdec
      by_cases hdig : 48 ≤ c.toNat ∧ c.toNat ≤ 57
      · have hv1 := Lib.hid (hv_dig hdig)
        obtain ⟨hd0, hd1⟩ := hdig
        by_cases hcut : 1152921504606846976 ≤ a
        · go_wp2
          go_ret2
          exact ⟨PuPost.none_ (by rw [HD.out, pv_cut hv1.out hcut]) (.inl rfl), HBel.out⟩
        · have hn1 : ¬ (a * 16 + ((c.toNat : Int) - 48) < a * 16) := by omega
          go_wp2
          go_round
          case rel => exact ⟨k + 1, _, rfl, rfl, by go_num, by omega, Lib.hid ⟨by omega, by omega, by rw [HD.out, pv_go hv1.out hcut]; congr 1; omega⟩⟩
          case measure => simp [intOf]; omega
      · obtain ⟨lc, hlc⟩ : ∃ lc, bits .or .u8 (c.toNat : Int) 32 = lc := ⟨_, rfl⟩
        have hl2 := lower_at c
        rw [hlc] at hl2
        have hl3 : 0 ≤ lc ∧ lc ≤ 255 := by split at hl2 <;> omega
        have h95 : (c.toNat = 95 → lc = 127) := by intro h; split at hl2 <;> omega
        clear hl2
        obtain ⟨l0, l1⟩ := hl3
        by_cases hlet : 97 ≤ lc ∧ lc ≤ 102
        · have hv1 := Lib.hid (hv_let hlc hdig hlet.1 hlet.2)
          have hb95 : ((c.toNat : Int) == 95) = false := by rw [beq_eq_false_iff_ne]; omega
          clear h95
          obtain ⟨hd0, hd1⟩ := hlet
          rcases (show c.toNat < 48 ∨ 57 < c.toNat by omega) with hx | hx
          all_goals
            clear hdig
            by_cases hcut : 1152921504606846976 ≤ a
            · go_wp2
              go_ret2
              exact ⟨PuPost.none_ (by rw [HD.out, pv_cut hv1.out hcut]) (.inl rfl), HBel.out⟩
            · have hn1 : ¬ (a * 16 + (lc - 97 + 10) < a * 16) := by omega
              go_wp2
              go_round
              case rel => exact ⟨k + 1, _, rfl, rfl, by go_num, by omega, Lib.hid ⟨by omega, by omega, by rw [HD.out, pv_go hv1.out hcut]; congr 1; omega⟩⟩
              case measure => simp [intOf]; omega
        · have hv1 := Lib.hid (hv_no hlc hdig (by omega))
          by_cases hc95 : c.toNat = 95
          · obtain rfl : lc = 127 := h95 hc95
            obtain rfl : c = 95 := UInt8.toNat_inj.1 hc95
            have hlc' : bits .or .u8 95 32 = 127 := by kernel_rfl
            clear hdig hlet h95 hlc hc95 hc256
            go_wp2
            go_ret2
            exact ⟨PuPost.none_ (by rw [HD.out, pv_none hv1.out]) (.inr rfl), HBel.out⟩
          · have hb95 : ((c.toNat : Int) == 95) = false := by rw [beq_eq_false_iff_ne]; omega
            clear h95 hc95
            rcases (show c.toNat < 48 ∨ 57 < c.toNat by omega) with hx | hx
            all_goals
              rcases (show lc < 97 ∨ (97 ≤ lc ∧ 102 < lc ∧ lc ≤ 122) ∨ 122 < lc by omega) with hy | ⟨hy, hy2, hy3⟩ | hy
              all_goals
                clear hdig hlet
                go_wp2
                all_goals (go_ret2; exact ⟨PuPost.none_ (by rw [HD.out, pv_none hv1.out]) (.inr rfl), HBel.out⟩)
    · have hx : pval16 0 bs = some a := by rw [hdec, List.drop_of_length_le (by omega)]; rfl
      have HX := Lib.hid hx; clear hx hdec
      go_wp2
      go_ret2
      exact ⟨PuPost.some_ HX.out, HBel.out⟩
end Go.Proofs.YtapghdjbffmifaaDoor
