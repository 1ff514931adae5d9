/-
  The hexadecimal form: the plain function, and the walk of the library's formatBits at base 16. Conditions: the number is a uint64; the library's table of trailing zeros reads as its text lays it.
-/
import Derived.Test.YtapghdjbffmifaaDoorDigA
namespace Go.Proofs.YtapghdjbffmifaaDoor
open Go.RowKit
set_option maxRecDepth 100000

theorem tz64 (w : World) (hc : w.cell? ⟨4, 15, none⟩ = some (.int .u8 4)) :
    Calls Tryd.prog 107 #[.int .u64 16] w fun e w' => e = .returned (.int .i64 4) ∧ w = w' := by
  have h1 : bits .and .u64 16 (IntKind.u64.wrap (-16)) = 16 := by kernel_rfl
  have h2 : IntKind.u64.wrap (16 * 285870213051353865) = 4573923408821661840 := by kernel_rfl
  have h3 : (4573923408821661840 : Int) / 288230376151711744 = 15 := by kernel_rfl
  have h4 : (4573923408821661840 / 288230376151711744 : Int).toNat = 15 := by kernel_rfl
  go_enter Tryd.func107, Tryd.ntmps107
  go_wp2
  go_ret
  exact ⟨rfl, rfl⟩
theorem tz (w : World) (hc : w.cell? ⟨4, 15, none⟩ = some (.int .u8 4)) :
    Calls Tryd.prog 104 #[.int .u64 16] w fun e w' => e = .returned (.int .i64 4) ∧ w = w' := by
  go_enter Tryd.func104, Tryd.ntmps104
  go_wp2_with (go_at_call 107; refine (tz64 _ hc).mono ?_; rintro e w' ⟨rfl, rfl⟩)
  go_ret
  exact ⟨rfl, rfl⟩
def hexd (d : Nat) : UInt8 := if d < 10 then UInt8.ofNat (48 + d) else UInt8.ofNat (87 + d)
def Blk (w : World) (g : Nat) (t : TypeId) (cs : Array Value) : Prop := w.heap[g]? = some (.cells cs t (0, 0))
theorem Blk.cell {w : World} {g : Nat} {t : TypeId} {cs : Array Value} (h : Blk w g t cs) (i : Nat) : w.cell? ⟨g, i, none⟩ = cs[i]? := by unfold Blk at h; simp [World.cell?, h]
theorem Blk.frozen {w : World} {g : Nat} {t : TypeId} {cs : Array Value} (h : Blk w g t cs) (i : Nat) : w.frozen? ⟨g, i, none⟩ = false := by unfold Blk at h; simp [World.frozen?, h]
theorem Blk.set_ {w : World} {g : Nat} {t : TypeId} {cs : Array Value} (h : Blk w g t cs) (i : Nat) (u : Value) : Blk (w.setCell ⟨g, i, none⟩ u) g t (cs.setIfInBounds i u) := by
  unfold Blk at h ⊢; simp [World.setCell, Array.getElem?_modify, h]
theorem z106 : Tryd.zeroCells106.size = 65 := by kernel_rfl

theorem hexd_fin : ∀ d : Fin 16, (⟨#[48, 49, 50, 51, 52, 53, 54, 55, 56, 57, 97, 98, 99, 100, 101, 102, 103, 104, 105, 106, 107, 108, 109, 110, 111, 112, 113, 114, 115, 116, 117, 118, 119, 120, 121, 122]⟩ : ByteArray)[d.val]'(by show d.val < 36; omega) = hexd d.val := by decide +kernel
theorem hexd_at (d : Nat) (h : d < 16) (h' : d < (⟨#[48, 49, 50, 51, 52, 53, 54, 55, 56, 57, 97, 98, 99, 100, 101, 102, 103, 104, 105, 106, 107, 108, 109, 110, 111, 112, 113, 114, 115, 116, 117, 118, 119, 120, 121, 122]⟩ : ByteArray).size) : (⟨#[48, 49, 50, 51, 52, 53, 54, 55, 56, 57, 97, 98, 99, 100, 101, 102, 103, 104, 105, 106, 107, 108, 109, 110, 111, 112, 113, 114, 115, 116, 117, 118, 119, 120, 121, 122]⟩ : ByteArray)[d] = hexd d := hexd_fin ⟨d, h⟩
theorem and15 (x : Int) (h : U64 x) : bits .and .u64 x 15 = x % 16 := by
  unfold U64 at h
  rw [u64_and x 15 h.1 (by omega) (by omega) (by omega)]
  have := nat_mask4 x.toNat
  rw [show (15 : Int).toNat = 15 from rfl, this]; omega
theorem shr4_u64 (n : Int) (h : U64 n) (k : Nat) : U64 (n / 16 ^ k) := by
  unfold U64 at *
  have hp : (0 : Int) < 16 ^ k := Int.pow_pos (by omega)
  exact ⟨Int.ediv_nonneg h.1 (by omega), by have : n / 16 ^ k ≤ n := Int.ediv_le_self _ h.1; omega⟩
theorem div16_step (n : Int) (k : Nat) : n / 16 ^ k / 16 = n / 16 ^ (k + 1) := by
  rw [Int.ediv_ediv_of_nonneg (Int.le_of_lt (Int.pow_pos (by omega))), Int.pow_succ]
/-- The nibbles of a number, the least k, the highest first. -/
def hexLow (u : Int) : Nat → List UInt8
  | 0 => []
  | k + 1 => hexd ((u / 16 ^ k) % 16).toNat :: hexLow u k
/-- What the row holds behind place p. -/
def Held (cs : Array Value) (p : Nat) (l : List UInt8) : Prop := cs.size = 65 ∧ p + l.length = 65 ∧ ∀ t (h : t < l.length), cs[p + t]? = some (.int .u8 (l[t].toNat : Int))
theorem Held.put {cs : Array Value} {p : Nat} {l : List UInt8} (h : Held cs p l) (hp : 0 < p) (c : UInt8) : Held (cs.setIfInBounds (p - 1) (.int .u8 (c.toNat : Int))) (p - 1) (c :: l) := by
  obtain ⟨h1, h2, h3⟩ := h
  refine ⟨by simpa using h1, by simp; omega, fun t ht => ?_⟩
  rcases t with _ | t
  · simp [Array.getElem?_setIfInBounds, h1]; omega
  · simp at ht
    rw [Array.getElem?_setIfInBounds, if_neg (by omega)]
    have := h3 t ht
    rw [show p - 1 + (t + 1) = p + t by omega, this]
    rfl
theorem hexLow_length (u : Int) (k : Nat) : (hexLow u k).length = k := by induction k with | zero => rfl | succ k ih => simp [hexLow, ih]
def hexMin (u : Int) : Nat → List UInt8
  | 0 => []
  | k + 1 => if u / 16 ^ k = 0 then hexMin u k else hexLow u (k + 1)

theorem slice65 (a : Nat) (p : Nat) (h1 : 1 ≤ p) (h2 : p ≤ 65) (W : World) : (Instr.sliceAt 106 (.pointer (some ⟨a, 0, none⟩)) (some (.int .i64 ((p : Int) - 1))) none none).run Tryd.prog W = .ok (.slice (some ⟨a, p - 1, none⟩) (66 - p) (66 - p)) W := by
  have ht : Tryd.prog.underlying 106 = some (.array (Tryd.prog.arrayLen 106) (Tryd.prog.elem 106)) := by kernel_rfl
  have hl : Tryd.prog.arrayLen 106 = 65 := by kernel_rfl
  have hs : (Go.sizeOf (Tryd.prog.elem 106)).run Tryd.prog W = .ok 1 W := by kernel_rfl
  rw [run_sliceAt_array_l W 106 ⟨a, 0, none⟩ ht .i64 ((p : Int) - 1) (by omega) (by rw [hl]; omega), hs, hl]
  show Result.ok (slicedAt _ _ 65 65 1) W = _
  unfold slicedAt
  rw [if_neg (by omega), Addr.add_lit, show ((p : Int) - 1).toNat = p - 1 from by omega, show 0 + (p - 1) * 1 = p - 1 from by omega, show 65 - (p - 1) = 66 - p from by omega]

theorem formatBits16 (u : Int) (hu : U64 u) (w : World) (hc : w.cell? ⟨4, 15, none⟩ = some (.int .u8 4)) :
    Calls Tryd.prog 95 #[.slice none 0 0, .int .u64 u, .int .i64 16, .bool false, .bool false] w fun e w' =>
      ∃ j : Nat, 1 ≤ j ∧ j ≤ 16 ∧ u < 16 ^ j ∧ (2 ≤ j → 16 ^ (j - 1) ≤ u) ∧ e = .returned (.tuple #[.slice none 0 0, .string ⟨(hexLow u j).toArray⟩]) ∧ Below w.heap.size w w' := by
  have hlt : 4 < w.heap.size := World.block_lt_of_cell? w _ hc
  have ht := fun (W : World) (h : W.cell? ⟨4, 15, none⟩ = some (.int .u8 4)) => tz W h
  have HT := Lib.hid ht; clear ht
  have hu' := hu
  obtain ⟨u0, u1⟩ := hu'
  have hc2 : (w.alloc (Obj.cells Tryd.zeroCells106 106)).cell? ⟨4, 15, none⟩ = some (.int .u8 4) := by rw [World.cell?_alloc_past _ _ _ hlt]; exact hc
  go_enter Tryd.func95, Tryd.ntmps95
  go_wp2_with (first | (go_at_call 104; refine (HT.out _ hc2).mono ?_; rintro e w' ⟨rfl, rfl⟩) | go_in)
  go_loopw [1, 13] (fun v i wr => ∃ (p j : Nat) (m : Int) (cs : Array Value), i = .int .i64 p ∧ v = .int .u64 m ∧ 0 ≤ m ∧ m ≤ 18446744073709551615 ∧ j ≤ 15 ∧ Hid (p + j = 65) ∧ 50 ≤ p ∧ p ≤ 65 ∧ Hid (m = u / 16 ^ j ∧ (1 ≤ j → 16 ^ j ≤ u)) ∧ Hid (Blk wr w.heap.size 106 cs ∧ Held cs p (hexLow u j) ∧ Below w.heap.size w wr)) (fun v _ _ => (intOf v).toNat)
  case atStart => exact ⟨65, 0, u, _, rfl, rfl, u0, u1, by omega, Lib.hid rfl, by omega, by omega, Lib.hid ⟨by simp, by omega⟩, Lib.hid ⟨heap_alloc_new w _, ⟨z106, rfl, fun t ht => by simp [hexLow] at ht⟩, Below.alloc1 _ _⟩⟩
  case round =>
    obtain ⟨p, j, m, cs, rfl, rfl, m0, m1, hj, hp, p0, p1, hm, hB⟩ := hrel
    have hcell := hB.out.1.cell (p - 1)
    have hfz := hB.out.1.frozen (p - 1)
    have hgt : (cs[p - 1]? : Option Value) = some (cs[p-1]'(by have := hB.out.2.1.1; omega)) := Array.getElem?_eq_getElem _
    rw [hgt] at hcell
    generalize cs[p-1]'_ = old at hcell
    clear hgt
    by_cases h16 : 16 ≤ m
    · have hb15 := and15 m ⟨m0, m1⟩
      go_wp2
      go_roundw
      case rel =>
        have hpw : (16 : Int) ^ (j + 1) ≤ u := by
          have h2 : (0 : Int) < 16 ^ j := Int.pow_pos (by omega)
          rw [Int.pow_succ, Int.mul_comm]
          exact (Int.le_ediv_iff_mul_le h2).1 (by rw [← hm.out.1]; omega)
        have hj15 : j < 15 := by
          rcases Nat.lt_or_ge j 15 with h | h
          · exact h
          · obtain rfl : j = 15 := by omega
            have : (16 : Int) ^ (15 + 1) = 18446744073709551616 := by decide
            omega
        have hp' := hp.out
        refine ⟨p - 1, j + 1, m / 16, _, by rw [show ((p - 1 : Nat) : Int) = (p : Int) - 1 by omega], rfl, by omega, by omega, by omega, Lib.hid (by omega), by omega, by omega, Lib.hid ⟨by rw [hm.out.1, div16_step], fun _ => ?_⟩, Lib.hid ⟨hB.out.1.set_ _ _, ?_, hB.out.2.2.setCell (Nat.le_refl _) _⟩⟩
        · exact hpw
        · rw [hexd_at _ (by omega)]
          have := hB.out.2.1.put (by omega) (hexd (m % 16).toNat)
          rw [hm.out.1] at this ⊢
          exact this
      case measure => simp [intOf]; omega
    · have hb15 := hexd_at m.toNat (by omega) (by show m.toNat < 36; omega)
      have hsl := fun W => slice65 w.heap.size p (by omega) p1 W
      have hcv : ∀ l : List UInt8, l.length = 66 - p → (∀ j (hj : j < l.length), (wr.setCell ⟨w.heap.size, p - 1, none⟩ (.int .u8 ((hexd m.toNat).toNat : Int))).cell? ((⟨w.heap.size, p - 1, none⟩ : Addr).add j) = some (.int .u8 (l[j].toNat : Int))) →
          (convert 54 9 (.slice (some ⟨w.heap.size, p - 1, none⟩) (66 - p) (66 - p))).run Tryd.prog (wr.setCell ⟨w.heap.size, p - 1, none⟩ (.int .u8 ((hexd m.toNat).toNat : Int))) = .ok (.string ⟨l.toArray⟩) (wr.setCell ⟨w.heap.size, p - 1, none⟩ (.int .u8 ((hexd m.toNat).toNat : Int))) := fun l hl hc => by
        rw [← hl]; exact run_convert_bytes_back _ 54 9 5 _ _ l Tryd.underlying54 Tryd.underlying5 Tryd.underlying9 hc
      have hput := hB.out.2.1.put (by omega) (hexd m.toNat)
      have hblk := hB.out.1.set_ (p - 1) (.int .u8 ((hexd m.toNat).toNat : Int))
      have hj16 : m.toNat = (u / 16 ^ j % 16).toNat := by rw [← hm.out.1]; omega
      have hcv2 := hcv (hexLow u (j + 1)) (by have := hp.out; rw [hexLow_length]; omega) (fun t ht => by
        rw [Addr.add_lit, hblk.cell]
        have := hput.2.2 t (by simpa [hexLow] using ht)
        rw [this]
        simp only [hexLow, ← hj16])
      have HE : Hid (1 ≤ j + 1 ∧ j + 1 ≤ 16 ∧ u < 16 ^ (j + 1) ∧ (2 ≤ j + 1 → 16 ^ (j + 1 - 1) ≤ u)) := Lib.hid ⟨by omega, by omega, by
        have h1 : u / 16 ^ j < 16 := by rw [← hm.out.1]; omega
        have h2 : (0 : Int) < 16 ^ j := Int.pow_pos (by omega)
        rw [Int.pow_succ, Int.mul_comm]
        exact (Int.ediv_lt_iff_lt_mul h2).1 h1, fun h => by
          rw [Nat.add_sub_cancel]; exact hm.out.2 (by omega)⟩
      have HB : Hid (Below w.heap.size w (wr.setCell ⟨w.heap.size, p - 1, none⟩ (.int .u8 ((hexd m.toNat).toNat : Int)))) := Lib.hid (hB.out.2.2.setCell (Nat.le_refl _) _)
      clear hcv hput hblk hj16
      go_wp2
      go_ret2
      exact ⟨j + 1, HE.out.1, HE.out.2.1, HE.out.2.2.1, HE.out.2.2.2, rfl, HB.out⟩
end Go.Proofs.YtapghdjbffmifaaDoor
