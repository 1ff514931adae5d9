/-
  Plain facts on records as text: the text at the beginning, sums of sizes, the length of encodings. Conditions: those that each theorem states.
-/
import Derived.Test.YtfpknhhhjgdjbaaDoorPk8
import Derived.Test.YtfpknhhhjgdjbaaDoorCon
import Derived.Lib.ItoaLen
namespace Go.Proofs.YtfpknhhhjgdjbaaDoor
open Go.RowKit
set_option maxRecDepth 100000

def firstT (s : List UInt8) : ByteArray := match lenF s with
  | some n => if s.length < headN s + n then ⟨#[]⟩ else textF s n
  | none => ⟨#[]⟩
def firstN (s : List UInt8) : Int := match lenF s with
  | some n => if s.length < headN s + n then 0 else (headN s + n : Nat)
  | none => 0
def firstE (s : List UInt8) : Int := match lenF s with
  | some n => if s.length < headN s + n then 24 else 0
  | none => 2
theorem first_syntax {s : List UInt8} (h : lenF s = none) : firstT s = ⟨#[]⟩ ∧ firstN s = 0 ∧ firstE s = 2 := by simp [firstT, firstN, firstE, h]
theorem first_trunc {s : List UInt8} {n : Nat} (h : lenF s = some n) (h1 : s.length < headN s + n) : firstT s = ⟨#[]⟩ ∧ firstN s = 0 ∧ firstE s = 24 := by simp [firstT, firstN, firstE, h, h1]
theorem first_ok {s : List UInt8} {n : Nat} (h : lenF s = some n) (h1 : ¬ s.length < headN s + n) : firstT s = textF s n ∧ firstN s = (headN s + n : Nat) ∧ firstE s = 0 := by simp [firstT, firstN, firstE, h, h1]
theorem text_of {s : ByteArray} {k n : Nat} (hk : headN s.data.toList = k + 1) (ha : ∀ a b, (s.extract a b).data.toList = (s.data.toList.take b).drop a) : s.extract (k + 1) (k + 1 + n) = textF s.data.toList n := by
  refine bytes_ext ?_
  rw [ha]
  show _ = (⟨((s.data.toList.take (headN s.data.toList + n)).drop (headN s.data.toList)).toArray⟩ : ByteArray).data.toList
  rw [hk]

/-- The sum of the sizes. -/
def sizes (l : List ByteArray) : Nat := (l.map ByteArray.size).sum
theorem sizes_nil : sizes [] = 0 := rfl
theorem sizes_cons (s : ByteArray) (l : List ByteArray) : sizes (s :: l) = s.size + sizes l := by unfold sizes; rw [List.map_cons, List.sum_cons]
theorem sizes_app (a b : List ByteArray) : sizes (a ++ b) = sizes a + sizes b := by unfold sizes; rw [List.map_append, List.sum_append]
theorem sizes_next {l : List ByteArray} {k : Nat} {t : ByteArray} (e : l[k]? = some t) : sizes (l.take (k + 1)) = sizes (l.take k) + t.size := by
  rw [List.take_add_one, e, sizes_app]
  simp [sizes]
theorem sizes_end {l : List ByteArray} {k : Nat} (h : l.length ≤ k) : sizes (l.take k) = sizes l := by rw [List.take_of_length_le h]
theorem sizes_mem : ∀ {l : List ByteArray} {s : ByteArray}, s ∈ l → s.size ≤ sizes l
  | [], _, h => by cases h
  | x :: l, s, h => by
    rw [sizes_cons]
    rcases List.mem_cons.1 h with rfl | h
    · omega
    · have := sizes_mem h; omega
theorem sizes_bound {M : Nat} : ∀ {l : List ByteArray}, (∀ s ∈ l, s.size ≤ M) → sizes l ≤ l.length * M
  | [], _ => by simp [sizes]
  | s :: l, h => by
    rw [sizes_cons, List.length_cons, Nat.add_mul, Nat.one_mul]
    have h1 := h s (by simp)
    have h2 := sizes_bound (l := l) fun x hx => h x (by simp [hx])
    omega
theorem packB_len : ∀ (l : List ByteArray), (∀ s ∈ l, s.size ≤ 9223372036854775807) → (packB l).length ≤ sizes l + 22 * l.length
  | [], _ => by simp [packB]
  | s :: l, h => by
    have h1 := h s (by simp)
    have h2 := packB_len l fun x hx => h x (by simp [hx])
    have h3 := Lib.itoa_length_le (s.size : Int) (by omega) (by omega)
    rw [packB_cons, sizes_cons, List.length_append, List.length_cons, List.length_append, List.length_cons, size_toList, ← Lib.itoa_nonneg]
    omega
/-- The texts of numbers are short. -/
theorem itoaBs_sizes : ∀ {l : List Int}, (∀ n ∈ l, -9223372036854775808 ≤ n ∧ n ≤ 9223372036854775807) → ∀ s ∈ itoaBs l, s.size ≤ 21 := by
  intro l h s hs
  unfold itoaBs at hs
  rw [List.mem_map] at hs
  obtain ⟨n, hn, rfl⟩ := hs
  have h1 := Lib.itoa_length_le n (h n hn).1 (h n hn).2
  rw [← size_toList]
  exact h1
theorem itoaBs_len (l : List Int) : (itoaBs l).length = l.length := by unfold itoaBs; rw [List.length_map]
theorem itoaBs_next {l : List Int} {k : Nat} {n : Int} (e : l[k]? = some n) : itoaBs (l.take (k + 1)) = itoaBs (l.take k) ++ [⟨(Lib.itoa n).toArray⟩] := by
  unfold itoaBs
  rw [List.take_add_one, e, List.map_append]
  rfl
theorem itoaBs_packs {l : List Int} (h : ∀ n ∈ l, -9223372036854775808 ≤ n ∧ n ≤ 9223372036854775807) : (packB (itoaBs l)).length ≤ 43 * l.length := by
  have h1 := itoaBs_sizes h
  have h2 := packB_len (itoaBs l) fun s hs => Nat.le_trans (h1 s hs) (by decide)
  have h3 := sizes_bound h1
  rw [itoaBs_len] at h2 h3
  omega
theorem pack_next {l : List ByteArray} {k : Nat} {t : ByteArray} (e : l[k]? = some t) : packB (l.take (k + 1)) = packB (l.take k) ++ pack1 t := by
  rw [List.take_add_one, e, packB_append]
  simp [packB]
/-- Numbers in a row. -/
def ints (l : List Int) : List (List AV) := l.map fun n => [.ex (.int .i64 n)]
theorem ints_len (l : List Int) : (ints l).length = l.length := by simp [ints]
theorem ints_app (a b : List Int) : ints (a ++ b) = ints a ++ ints b := by simp [ints]
theorem ints_get {l : List Int} {k : Nat} {n : Int} (e : l[k]? = some n) : (ints l)[k]? = some [.ex (.int .i64 n)] := by rw [ints, List.getElem?_map, e]; rfl
theorem ints_all (l : List Int) : ∀ x ∈ ints l, x.length = 1 := by
  intro x hx
  simp only [ints, List.mem_map] at hx
  obtain ⟨c, _, rfl⟩ := hx
  rfl
theorem xor_max (n : Int) (h0 : 0 ≤ n) (h1 : n ≤ 18446744073709551615) : IntKind.u64.wrap ((BitVec.ofInt IntKind.u64.bits 18446744073709551615 ^^^ BitVec.ofInt IntKind.u64.bits n).toNat : Int) = 18446744073709551615 - n := by
  have e1 : (BitVec.ofInt IntKind.u64.bits 18446744073709551615) = BitVec.allOnes 64 := by show BitVec.ofInt 64 18446744073709551615 = BitVec.allOnes 64; decide +kernel
  have e2 : IntKind.u64.bits = 64 := rfl
  have e3 : (BitVec.allOnes 64 ^^^ BitVec.ofInt 64 n) = ~~~ (BitVec.ofInt 64 n) := BitVec.allOnes_xor
  have e4 : (BitVec.ofInt 64 n).toNat = n.toNat := by rw [BitVec.toNat_ofInt]; omega
  rw [e1]
  show IntKind.u64.wrap ((BitVec.allOnes 64 ^^^ BitVec.ofInt 64 n).toNat : Int) = _
  rw [e3, BitVec.toNat_not, e4]
  have e5 : ((2 ^ 64 - 1 - n.toNat : Nat) : Int) = 18446744073709551615 - n := by omega
  rw [e5]
  unfold IntKind.wrap
  simp [IntKind.signed, IntKind.bits]
  omega
theorem not_i64 (v : Nat) (h0 : 1 ≤ v) (h1 : v ≤ 9223372036854775808) : IntKind.i64.wrap (IntKind.u64.wrap (IntKind.u64.wrap ↑(BitVec.ofInt IntKind.u64.bits (if IntKind.u64.signed = true then -1 else IntKind.u64.max) ^^^ BitVec.ofInt IntKind.u64.bits (v : Int)).toNat + 1)) = -(v : Int) := by
  have e0 : (if IntKind.u64.signed = true then (-1 : Int) else IntKind.u64.max) = 18446744073709551615 := rfl
  rw [e0, xor_max v (by omega) (by omega)]
  unfold IntKind.wrap
  simp [IntKind.signed, IntKind.bits]
  omega
theorem quo10 (L d : Int) (h0 : 0 ≤ d) (h1 : d ≤ 9) (h2 : 9 ≤ L) (h3 : L ≤ 18446744073709551615) : IntKind.u64.wrap ((L - (48 + d - 48)).tdiv 10) = (L - d) / 10 := by
  rw [show L - (48 + d - 48) = L - d by omega, Int.tdiv_eq_ediv_of_nonneg (by omega)]
  unfold IntKind.wrap
  simp [IntKind.signed, IntKind.bits]
  omega
end Go.Proofs.YtfpknhhhjgdjbaaDoor
