/-
  The digests: the plain function, and the walks of digest.extend, eight, Chain and of the reference's. Conditions: numbers are uint64, strings fit in memory.
-/
import Derived.Test.YtmnnphalljnmhaaDoorRows
import Derived.Test.YtmnnphalljnmhaaDoorGLib
namespace Go.Proofs.YtmnnphalljnmhaaDoor
open Go.RowKit
set_option maxRecDepth 100000

/-- A digest is a uint64. -/
def U64 (h : Int) : Prop := 0 ≤ h ∧ h ≤ 18446744073709551615
def dstep (h : Int) (c : UInt8) : Int := IntKind.u64.wrap (bits .xor .u64 h (c.toNat : Int) * 1099511628211)
def dext (h : Int) (l : List UInt8) : Int := l.foldl dstep h
def basis : Int := 14695981039346656037
/-- The eight bytes of a number, the least first. -/
def bytes8 (n : Int) (k : Nat) : List UInt8 := (List.range k).map fun i => UInt8.ofNat ((n / 256 ^ i) % 256).toNat
def dchain (p : Int) (l : List UInt8) : Int := dext (dext basis (bytes8 p 8)) l
def dpair (a b : Int) : Int := dext (dext basis (bytes8 a 8)) (bytes8 b 8)
def dhash (l : List UInt8) : Int := dext basis l

theorem dext_append (h : Int) (a b : List UInt8) : dext h (a ++ b) = dext (dext h a) b := List.foldl_append ..
theorem dext_snoc (h : Int) (a : List UInt8) (c : UInt8) : dext h (a ++ [c]) = dstep (dext h a) c := by rw [dext_append]; rfl
theorem dext_nil (h : Int) : dext h [] = h := rfl
theorem u64_wrap (n : Int) : U64 (IntKind.u64.wrap n) := by unfold U64; rw [IntKind.wrap_u64]; omega
theorem dstep_u64 (h : Int) (c : UInt8) : U64 (dstep h c) := u64_wrap _
theorem dext_u64 {h : Int} (hh : U64 h) (l : List UInt8) : U64 (dext h l) := by
  rcases List.eq_nil_or_concat l with rfl | ⟨a, c, rfl⟩
  · exact hh
  · rw [List.concat_eq_append, dext_snoc]; exact dstep_u64 _ _
theorem basis_u64 : U64 basis := by unfold U64 basis; omega
theorem dhash_u64 (l : List UInt8) : U64 (dhash l) := dext_u64 basis_u64 l
theorem dchain_u64 (p : Int) (l : List UInt8) : U64 (dchain p l) := dext_u64 (dext_u64 basis_u64 _) l
theorem dpair_u64 (a b : Int) : U64 (dpair a b) := dext_u64 (dext_u64 basis_u64 _) _
theorem wrap_byte (c : UInt8) : IntKind.u64.wrap (c.toNat : Int) = c.toNat := by
  rw [IntKind.wrap_u64]; have := byte_lt c; omega
theorem bytes8_succ (n : Int) (k : Nat) : bytes8 n (k + 1) = bytes8 n k ++ [UInt8.ofNat ((n / 256 ^ k) % 256).toNat] := by
  unfold bytes8; rw [List.range_succ, List.map_append]; rfl
theorem bytes8_length (n : Int) (k : Nat) : (bytes8 n k).length = k := by simp [bytes8]
theorem byte_of (m : Int) : ((UInt8.ofNat (m % 256).toNat).toNat : Int) = m % 256 := by
  rw [ofNat_toNat _ (by omega)]; omega
theorem and255 (x : Int) (h : U64 x) : bits .and .u64 x 255 = x % 256 := by
  unfold U64 at h
  rw [u64_and x 255 h.1 (by omega) (by omega) (by omega)]
  have := nat_mask8 x.toNat
  rw [show (255 : Int).toNat = 255 from rfl, this]; omega
theorem shift_u64 (n : Int) (h : U64 n) (k : Nat) : U64 (n / 256 ^ k) := by
  unfold U64 at *
  have hp : (0 : Int) < 256 ^ k := Int.pow_pos (by omega)
  refine ⟨Int.ediv_nonneg h.1 (by omega), ?_⟩
  have : n / 256 ^ k ≤ n := Int.ediv_le_self _ h.1
  omega
theorem pow8 (k : Nat) : (2 : Int) ^ (8 * k) = 256 ^ k := by rw [Int.pow_mul]; rfl
theorem eight_step (n m : Int) (h : U64 n) (k : Nat) : IntKind.u64.wrap (bits .xor .u64 m (bits .and .u64 (n / 2 ^ (8 * k)) 255) * 1099511628211) = dstep m (UInt8.ofNat ((n / 256 ^ k) % 256).toNat) := by
  unfold dstep
  rw [byte_of, pow8, and255 _ (shift_u64 n h k)]
theorem div_step (n : Int) (k : Nat) : n / 256 ^ k / 256 = n / 256 ^ (k + 1) := by
  rw [Int.ediv_ediv_of_nonneg (by exact Int.le_of_lt (Int.pow_pos (by omega))), Int.pow_succ]

theorem elt_u8 : Elt Tryd.prog 102 5 1 1 := Elt.mk' (z := .int .u8 0) Tryd.underlying102 (by kernel_rfl) rfl (by omega)

/-- digest.extend -/
theorem extend_any (h : Int) (s : ByteArray) (w : World) (hs : s.size ≤ maxLen) :
    Calls Tryd.prog 110 #[.int .u64 h, .string s] w fun e w' => e = .returned (.int .u64 (dext h s.data.toList)) ∧ w = w' := by
  unfold maxLen at hs
  go_enter Tryd.func110, Tryd.ntmps110
  go_wp2
  go_loop [0, 8] (fun v i => ∃ k : Nat, k ≤ s.size ∧ i = .int .i64 k ∧ v = .int .u64 (dext h (s.data.toList.take k))) (fun _ i => s.size - (intOf i).toNat)
  case atStart => exact ⟨0, Nat.zero_le _, rfl, rfl⟩
  case round =>
    obtain ⟨k, hk, rfl, rfl⟩ := hrel
    by_cases hlt : k < s.size
    · go_wp2
      go_round
      case rel => exact ⟨k + 1, by omega, by go_num, by rw [take_snoc s k hlt, dext_snoc, wrap_byte]; rfl⟩
      case measure => simp [intOf]; omega
    · go_wp2
      go_ret
      exact ⟨ret_int (by rw [take_all s k hlt]), rfl⟩

/-- R08.Extend -/
theorem Rextend_any (h : Int) (s : ByteArray) (w : World) (hs : s.size ≤ maxLen) :
    Calls Tryd.prog 61 #[.int .u64 h, .string s] w fun e w' => e = .returned (.int .u64 (dext h s.data.toList)) ∧ w = w' := by
  unfold maxLen at hs
  go_enter Tryd.func61, Tryd.ntmps61
  go_wp2
  go_loop [0, 5] (fun v i => ∃ k : Nat, k ≤ s.size ∧ i = .int .i64 k ∧ v = .int .u64 (dext h (s.data.toList.take k))) (fun _ i => s.size - (intOf i).toNat)
  case atStart => exact ⟨0, Nat.zero_le _, rfl, rfl⟩
  case round =>
    obtain ⟨k, hk, rfl, rfl⟩ := hrel
    by_cases hlt : k < s.size
    · go_wp2
      go_round
      case rel => exact ⟨k + 1, by omega, by go_num, by rw [take_snoc s k hlt, dext_snoc, wrap_byte]; rfl⟩
      case measure => simp [intOf]; omega
    · go_wp2
      go_ret
      exact ⟨ret_int (by rw [take_all s k hlt]), rfl⟩

/-- digest.eight -/
theorem eight_any (h n : Int) (w : World) (hn : U64 n) :
    Calls Tryd.prog 111 #[.int .u64 h, .int .u64 n] w fun e w' => e = .returned (.int .u64 (dext h (bytes8 n 8))) ∧ w = w' := by
  have hn' := hn
  obtain ⟨h0, h1⟩ := hn'
  go_enter Tryd.func111, Tryd.ntmps111
  go_wp2
  go_loop [0, 6] (fun v i => ∃ k : Nat, k ≤ 8 ∧ i = .int .i64 k ∧ v = .int .u64 (dext h (bytes8 n k))) (fun _ i => 8 - (intOf i).toNat)
  case atStart => exact ⟨0, by omega, rfl, rfl⟩
  case round =>
    obtain ⟨k, hk, rfl, rfl⟩ := hrel
    by_cases hlt : k < 8
    · go_wp2
      go_round
      case rel => exact ⟨k + 1, by omega, by go_num, by rw [eight_step n _ hn k, bytes8_succ, dext_snoc]⟩
      case measure => simp [intOf]; omega
    · obtain rfl : k = 8 := by omega
      go_wp2
      go_ret
      exact ⟨rfl, rfl⟩

/-- R08.eight -/
theorem Reight_any (n : Int) (w : World) (hn : U64 n) :
    Calls Tryd.prog 63 #[.int .u64 n] w fun e w' => e = .returned (.string ⟨(bytes8 n 8).toArray⟩) ∧ Below w.heap.size w w' := by
  have hn' := hn
  obtain ⟨h0, h1⟩ := hn'
  go_enter Tryd.func63, Tryd.ntmps63
  go_wp2
  go_loopw [0, 3, 4] (fun h v i wr => ∃ (k : Nat) (m : Int), k ≤ 8 ∧ i = .int .i64 k ∧ h = .int .u64 m ∧ 0 ≤ m ∧ m ≤ 18446744073709551615 ∧ Hid (m = n / 256 ^ k) ∧ wr.ownsRow w.heap.size 5 1 v k (Lib.byteCells (bytes8 n k)) ∧ Below w.heap.size w wr) (fun _ _ i _ => 8 - (intOf i).toNat)
  case atStart => exact ⟨0, n, by omega, rfl, rfl, h0, h1, Lib.hid (by simp), World.ownsRow_made w #[] 0 (Nat.le_refl _) (by decide) rfl, Below.alloc1 _ _⟩
  case round =>
    obtain ⟨k, m, hk, rfl, rfl, hm0, hm1, hm, hown, hb⟩ := hrel
    have hsz := hb.size
    by_cases hlt : k < 8
    · go_wp2_with (at_builtin; refine wpList_push elt_u8 rfl (.tmp 10) (.tmp 14) rfl w.heap.size _ k _ rfl hown [.int .u8 (m % 256)] rfl rfl ?c1 ?c2 (by omega) hsz ?_)
      case c1 => intro u hu; simp at hu; subst hu; rfl
      case c2 => omega
      intro v' w' hown' hb'
      go_wp2
      go_roundw
      case rel =>
        refine ⟨k + 1, _, by omega, by go_num, rfl, by omega, by omega, Lib.hid (by rw [hm.out, div_step]), ?_, hb.trans hb'⟩
        rw [bytes8_succ, ← byteCells_snoc, ← hm.out, byte_of]
        exact hown'
      case measure => simp [intOf]; omega
    · obtain rfl : k = 8 := by omega
      have hcv := conv_own (src := 102) (dst := 9) hown Tryd.underlying102 Tryd.underlying5 Tryd.underlying9
      go_wp2
      go_ret
      exact ⟨rfl, hb⟩

theorem size8 (n : Int) : (⟨(bytes8 n 8).toArray⟩ : ByteArray).size ≤ maxLen := by
  show (bytes8 n 8).toArray.size ≤ maxLen
  simp only [List.size_toArray, bytes8_length, maxLen]; decide

/-- R08.Hash -/
theorem RHash_any (s : ByteArray) (w : World) (hs : s.size ≤ maxLen) :
    Calls Tryd.prog 62 #[.string s] w fun e w' => e = .returned (.int .u64 (dhash s.data.toList)) ∧ w = w' := by
  go_enter Tryd.func62, Tryd.ntmps62
  go_wp2_with (go_at_call 61; refine (Rextend_any _ _ _ hs).mono ?_; rintro e w' ⟨rfl, rfl⟩)
  go_ret
  exact ⟨rfl, rfl⟩
/-- digest.Chain -/
theorem Chain_any (p : Int) (s : ByteArray) (w : World) (hp : U64 p) (hs : s.size ≤ maxLen) :
    Calls Tryd.prog 92 #[.int .u64 p, .string s] w fun e w' => e = .returned (.int .u64 (dchain p s.data.toList)) ∧ w = w' := by
  go_enter Tryd.func92, Tryd.ntmps92
  go_wp2_with (first | (go_at_call 110; refine (extend_any _ _ _ hs).mono ?_; rintro e w' ⟨rfl, rfl⟩) | (go_at_call 111; refine (eight_any _ _ _ hp).mono ?_; rintro e w' ⟨rfl, rfl⟩))
  go_ret
  exact ⟨rfl, rfl⟩
/-- R08.Chain -/
theorem RChain_any (p : Int) (s : ByteArray) (w : World) (hp : U64 p) (hs : s.size ≤ maxLen) :
    Calls Tryd.prog 33 #[.int .u64 p, .string s] w fun e w' => e = .returned (.int .u64 (dchain p s.data.toList)) ∧ Below w.heap.size w w' := by
  go_enter Tryd.func33, Tryd.ntmps33
  go_wp2_with (first
    | (go_at_call 63; refine (Reight_any _ _ hp).mono ?_; rintro e w1 ⟨rfl, hb1⟩)
    | (go_at_call 62; refine (RHash_any _ _ (size8 p)).mono ?_; rintro e w2 ⟨rfl, rfl⟩)
    | (go_at_call 61; refine (Rextend_any _ _ _ hs).mono ?_; rintro e w2 ⟨rfl, rfl⟩))
  go_ret
  exact ⟨ret_int (by simp [dchain, dhash]), hb1⟩
end Go.Proofs.YtmnnphalljnmhaaDoor
